/- What package wire's functions compute: the plain laws on lists of bytes. -/
import Derived.Test.YtgdgbnklgngalaaDoorUnpL
import Derived.Test.YtgdgbnklgngalaaDoorText
import Derived.Test.YtgdgbnklgngalaaDoorUnpack
namespace Go.Proofs.YtgdgbnklgngalaaDoor
open Go.RowKit Go.Proofs.YtgdgbnklgngalaaDoorW.PrintWords
set_option linter.unusedVariables false
set_option linter.unusedSimpArgs false

theorem dec_l0 (x : ByteArray) (hx : x.size ≤ 281474976710656) : ∀ (d k i : Nat), x.size - i = d → i ≤ x.size → d + 1 ≤ k →
    QA.wire_decimal.l0 k x (x.size : Int) (i : Int) = some ((x.data.toList.drop i).all dgt) := by
  intro d
  induction d with
  | zero =>
    intro k i hd hi hk
    obtain ⟨k, rfl⟩ : ∃ m, k = m + 1 := ⟨k - 1, by omega⟩
    obtain rfl : i = x.size := by omega
    simp only [QA.wire_decimal.l0]
    rw [if_neg (by omega), drop_end]
    rfl
  | succ d ih =>
    intro k i hd hi hk
    obtain ⟨k, rfl⟩ : ∃ m, k = m + 1 := ⟨k - 1, by omega⟩
    obtain ⟨c, hdr, hbt, hc⟩ := bt_drop x i (by omega)
    simp only [QA.wire_decimal.l0]
    rw [if_pos (by omega), if_pos (by omega), if_pos (by omega), hbt, hdr, List.all_cons, w64s i (by omega)]
    by_cases h1 : c.toNat < 48
    · rw [if_pos (by omega), (dgt_not c).2 (by omega)]
      rfl
    · rw [if_neg (by omega)]
      by_cases h2 : c.toNat > 57
      · rw [if_pos (by omega), (dgt_not c).2 (by omega)]
        rfl
      · rw [if_neg (by omega), (dgt_iff c).2 (by omega), Bool.true_and]
        exact ih k (i + 1) (by omega) (by omega) (by omega)

/-- A text that 'TakeInt' takes, before its range. -/
def decB (l : List UInt8) : Bool := if l.head? = some 45 then natL l.tail && !(decide (l.tail = [48])) else natL l

theorem natL_nil : natL [] = false := by decide
theorem natL_48 (r : List UInt8) (h : r ≠ []) : natL (48 :: r) = false := by simp [natL, h]
theorem natL_cons {c : UInt8} (r : List UInt8) (h : c ≠ 48) : natL (c :: r) = (c :: r).all dgt := by simp [natL, h]

theorem dec_j1 (x m : ByteArray) (hx : m.size ≤ 281474976710656) (k : Nat) (hk : m.size + 5 ≤ k) (hm : m.size ≤ x.size) (hs : x.size = m.size ∨ x.size = m.size + 1) :
    QA.wire_decimal.j1 k x m = some (natL m.data.toList && !(decide (m.data.toList = [48]) && decide (x.size ≠ m.size))) := by
  obtain ⟨k, rfl⟩ : ∃ n, k = n + 1 := ⟨k - 1, by omega⟩
  obtain ⟨k, rfl⟩ : ∃ n, k = n + 1 := ⟨k - 1, by omega⟩
  have hz := size_list m
  cases hm0 : m.data.toList with
  | nil =>
    simp only [QA.wire_decimal.j1, QA.wire_decimal.j2]
    rw [if_pos (by rw [toList_eqv, hm0]), if_pos trivial, natL_nil]
    rfl
  | cons c r =>
    have hb := bt_zero m c r hm0
    rw [hm0] at hz
    simp only [List.length_cons] at hz
    have hl := dec_l0 m hx m.size k 0 (by omega) (by omega) (by omega)
    rw [List.drop_zero, hm0] at hl
    have hl' : QA.wire_decimal.l0 k m (m.size : Int) 0 = some ((c :: r).all dgt) := hl
    simp only [QA.wire_decimal.j1, QA.wire_decimal.j2]
    rw [if_neg (by rw [toList_eqv, hm0]; simp), if_pos (by omega), hb, hl']
    by_cases h48 : c = 48
    · subst h48
      have e48 : ((48 : UInt8).toNat : Int) = 48 := rfl
      rw [if_pos e48]
      by_cases hr : r = []
      · subst hr
        simp only [List.length_nil] at hz
        by_cases hxs : x.size = m.size
        · rw [decide_eq_false (by omega), if_neg (by simp)]
          have : decide (x.size ≠ m.size) = false := by simp [hxs]
          rw [this]
          rfl
        · rw [decide_eq_true (by omega), if_pos rfl]
          have : decide (x.size ≠ m.size) = true := by simp [hxs]
          rw [this]
          rfl
      · have hrl : 0 < r.length := List.length_pos_iff.2 hr
        rw [decide_eq_true (by omega), if_pos rfl, natL_48 r hr]
        rfl
    · have hc : ¬ (c.toNat : Int) = 48 := fun e => h48 (UInt8.toNat.inj (by have : (48 : UInt8).toNat = 48 := rfl; omega))
      rw [if_neg hc, if_neg (by simp), natL_cons r h48]
      have : decide (c :: r = [48]) = false := by simp [h48]
      rw [this]
      simp

theorem dec_ev (x : ByteArray) (hx : x.size ≤ 281474976710656) (k : Nat) (hk : x.size + 6 ≤ k) : QA.wire_decimal.f k x = some (decB x.data.toList) := by
  obtain ⟨k, rfl⟩ : ∃ n, k = n + 1 := ⟨k - 1, by omega⟩
  have hz := size_list x
  unfold QA.wire_decimal.f
  cases hx0 : x.data.toList with
  | nil =>
    rw [hx0] at hz
    simp only [List.length_nil] at hz
    rw [if_neg (by omega)]
    simp only [QA.wire_decimal.j0]
    rw [if_neg (by simp), dec_j1 x x hx k (by omega) (by omega) (by omega), hx0]
    simp [decB]
  | cons c r =>
    have hb := bt_zero x c r hx0
    rw [hx0] at hz
    simp only [List.length_cons] at hz
    rw [if_pos (by omega), if_pos (by omega), hb]
    simp only [QA.wire_decimal.j0]
    by_cases h45 : c = 45
    · subst h45
      have e45 : (((45 : UInt8).toNat : Int) == 45) = true := rfl
      have hm : (x.extract 1 x.size).data.toList = r := by
        rw [extract_list, List.take_of_length_le (by rw [size_list]; omega), hx0]
        rfl
      have hms : (x.extract 1 x.size).size = r.length := by rw [← size_list, hm]
      rw [e45, if_pos rfl, if_pos (by omega), dec_j1 x _ (by omega) k (by omega) (by omega) (by omega), hm]
      have : decide (x.size ≠ (x.extract 1 x.size).size) = true := decide_eq_true (by omega)
      rw [this, Bool.and_true]
      unfold decB
      rw [List.head?_cons, if_pos rfl]
      rfl
    · have hc : ((c.toNat : Int) == 45) = false := beq_eq_false_iff_ne.2 fun e => h45 (UInt8.toNat.inj (by have : (45 : UInt8).toNat = 45 := rfl; omega))
      rw [hc, if_neg (by simp), dec_j1 x x hx k (by omega) (by omega) (by omega), hx0]
      simp [decB, h45]

theorem takeInt_eq (x : ByteArray) (hx : x.size ≤ 281474976710656) : wire_TakeInt.f x = some (takeR x.data.toList) := by
  unfold wire_TakeInt.f
  rw [if_pos hx, dec_ev x hx _ (by omega)]
  simp only [Option.bind_some]
  congr 1
  unfold decB takeR takeM
  by_cases h45 : x.data.toList.head? = some 45
  · obtain ⟨r, hr⟩ : ∃ r, x.data.toList = 45 :: r := by
      cases h : x.data.toList with
      | nil => rw [h] at h45; simp at h45
      | cons c r => rw [h] at h45; simp at h45; subst h45; exact ⟨r, rfl⟩
    rw [if_pos h45, if_pos h45, hr, List.tail_cons]
    by_cases hn : natL r = true
    · by_cases h48 : r = [48]
      · subst h48
        rfl
      · have hd : decide (r = [48]) = false := decide_eq_false h48
        have c1 : (natL r && !decide (r = [48])) = true := by rw [hn, hd]; rfl
        have c2 : natL r = true ∧ ¬(true = true ∧ r = [48]) := ⟨hn, fun e => h48 e.2⟩
        rw [if_pos c1, if_pos c2, atoi_neg r hn h48, if_pos (rfl : true = true), if_pos (rfl : true = true)]
        by_cases hv : valL 0 r > 9223372036854775808
        · rw [if_pos hv, if_pos hv]; rfl
        · rw [if_neg hv, if_neg hv]; rfl
    · have hf : natL r = false := Bool.eq_false_iff.2 hn
      rw [hf]
      rfl
  · rw [if_neg h45, if_neg h45]
    by_cases hn : natL x.data.toList = true
    · have c2 : natL x.data.toList = true ∧ ¬(false = true ∧ x.data.toList = [48]) := ⟨hn, fun e => Bool.noConfusion e.1⟩
      rw [if_pos hn, if_pos c2, atoi_pos _ hn, if_neg (show ¬ false = true by simp), if_neg (show ¬ false = true by simp)]
      by_cases hv : valL 0 x.data.toList > 9223372036854775807
      · rw [if_pos hv, if_pos hv]; rfl
      · rw [if_neg hv, if_neg hv]; rfl
    · rw [if_neg hn, if_neg (fun e => hn e.1)]

/-! wire.length, Unpack. -/
def nums8 (l : List UInt8) : List Int := l.map fun b => (b.toNat : Int)
theorem nums8_len (l : List UInt8) : (nums8 l).length = l.length := by simp [nums8]
theorem rd_nums8 (l : List UInt8) (i : Nat) (c : UInt8) (r : List UInt8) (h : l.drop i = c :: r) : rd (nums8 l) (i : Int) = (c.toNat : Int) := by
  have hi : l[i]? = some c := by
    have := List.getElem?_drop (xs := l) (i := i) (j := 0)
    rw [h] at this
    simpa using this.symm
  unfold rd
  simp [nums8, List.getD, hi]

def lenAns (o : Option (Nat × Nat)) : Int × Int × Bool := match o with
  | some (m, p) => ((m : Int), (p : Int), true)
  | none => (0, 0, false)

theorem len_l0 (l : List UInt8) (hl : l.length ≤ 281474976710656) (h0 : UInt8) (t : List UInt8) (hlt : l = h0 :: t) : ∀ (d k i v : Nat), l.length - i = d → i ≤ l.length → v ≤ 163849 → d + 1 ≤ k →
    QA.wire_length.l0 k (nums8 l) (v : Int) (i : Int) = some (lenAns (scan (decide (l.head? = some 48)) (l.drop i) i v)) := by
  intro d
  induction d with
  | zero =>
    intro k i v hd hi hv hk
    obtain ⟨k, rfl⟩ : ∃ m, k = m + 1 := ⟨k - 1, by omega⟩
    obtain rfl : i = l.length := by omega
    have hl0 : l.length ≠ 0 := by rw [hlt]; simp
    simp only [QA.wire_length.l0]
    rw [if_neg (by rw [nums8_len]; omega), if_neg (by omega), if_pos (by rw [nums8_len]), List.drop_length]
    rfl
  | succ d ih =>
    intro k i v hd hi hv hk
    obtain ⟨k, rfl⟩ : ∃ m, k = m + 1 := ⟨k - 1, by omega⟩
    obtain ⟨c, hdr⟩ : ∃ c, l.drop i = c :: l.drop (i + 1) := ⟨l[i]'(by omega), List.drop_eq_getElem_cons (by omega)⟩
    have hb := rd_nums8 l i c _ hdr
    have hb0 : rd (nums8 l) 0 = (h0.toNat : Int) := rd_nums8 l 0 h0 t (by rw [List.drop_zero, hlt])
    have hc : c.toNat < 256 := UInt8.toNat_lt _
    have hn := nums8_len l
    simp only [QA.wire_length.l0]
    rw [if_pos (by omega), if_pos (by omega), hb, hb0, hdr]
    simp only [scan]
    by_cases hd1 : dgt c = true
    · have h1 := (dgt_iff c).1 hd1
      rw [if_pos (by omega), if_pos (by omega), if_pos hd1]
      by_cases hv1 : v ≤ 16384
      · have e1 : wrap64 (wrap64 (10 * (v : Int)) + (((c.toNat : Int) - 48) % 256)) = ((10 * v + (c.toNat - 48) : Nat) : Int) := by
          rw [w64 (n := 10 * (v : Int)) (by omega) (by omega), w64 (by omega) (by omega)]
          omega
        rw [if_pos (by omega), if_pos hv1, e1, w64s i (by omega)]
        exact ih k (i + 1) _ (by omega) (by omega) (by omega) (by omega)
      · rw [if_neg (by omega), if_neg hv1]
        by_cases hi0 : (i : Int) = 0
        · rw [if_pos hi0]; rfl
        · rw [if_neg hi0, if_neg (by omega), if_neg (by omega)]; rfl
    · have h1 := (dgt_not c).1 (by simpa using hd1)
      have tail : (if (i : Int) = 0 then some ((0 : Int), (0 : Int), false) else (if (i : Int) = ((nums8 l).length : Int) then some (0, 0, false) else (if (c.toNat : Int) = 58 then (if (v : Int) > 16384 then some (0, 0, false) else (if (0 : Int) < ((nums8 l).length : Int) then (if (h0.toNat : Int) = 48 then (if (i : Int) > 1 then some (0, 0, false) else some ((v : Int), wrap64 ((i : Int) + 1), true)) else some ((v : Int), wrap64 ((i : Int) + 1), true)) else none)) else some (0, 0, false)))) =
          some (lenAns (if i = 0 then none else if c.toNat = 58 then (if 16384 < v then none else if decide (l.head? = some 48) = true ∧ 1 < i then none else some (v, i + 1)) else none)) := by
        by_cases hi0 : i = 0
        · rw [if_pos (by omega), if_pos hi0]; rfl
        · rw [if_neg (by omega), if_neg hi0, if_neg (by omega)]
          by_cases h58 : c.toNat = 58
          · rw [if_pos (by omega), if_pos h58]
            by_cases hv1 : 16384 < v
            · rw [if_pos (by omega), if_pos hv1]; rfl
            · rw [if_neg (by omega), if_neg hv1, if_pos (by omega), w64s i (by omega)]
              have hh : decide (l.head? = some 48) = true ↔ (h0.toNat : Int) = 48 := by
                rw [hlt]
                simp only [List.head?_cons, Option.some.injEq, decide_eq_true_eq]
                have e48 : (48 : UInt8).toNat = 48 := rfl
                constructor
                · intro e; rw [e]; rfl
                · intro e; exact UInt8.toNat.inj (by omega)
              by_cases hz : (h0.toNat : Int) = 48
              · rw [if_pos hz]
                by_cases h1 : 1 < i
                · rw [if_pos (by omega), if_pos ⟨hh.2 hz, h1⟩]; rfl
                · rw [if_neg (by omega), if_neg (fun e => h1 e.2)]; rfl
              · rw [if_neg hz, if_neg (fun e => hz (hh.1 e.1))]; rfl
          · rw [if_neg (by omega), if_neg h58]; rfl
      rw [if_neg hd1]
      by_cases h48 : (c.toNat : Int) ≥ 48
      · rw [if_pos h48, if_neg (by omega)]
        exact tail
      · rw [if_neg h48]
        exact tail

theorem len_eq (l : List UInt8) (hl : l.length ≤ 281474976710656) (h0 : l ≠ []) (k : Nat) (hk : l.length + 1 ≤ k) : QA.wire_length.f k (nums8 l) = some (lenAns (lenL l)) := by
  cases l with
  | nil => exact absurd rfl h0
  | cons c r => exact len_l0 (c :: r) hl c r rfl (c :: r).length k 0 0 rfl (Nat.zero_le _) (Nat.zero_le _) hk

theorem nums8_take (l : List UInt8) (n : Nat) : (nums8 l).take n = nums8 (l.take n) := by simp [nums8, List.map_take]
theorem nums8_drop (l : List UInt8) (n : Nat) : (nums8 l).drop n = nums8 (l.drop n) := by simp [nums8, List.map_drop]
theorem str_nums8 (l : List UInt8) : strOfNums (nums8 l) = ⟨l.toArray⟩ := by
  unfold strOfNums nums8
  rw [List.map_map]
  congr 2
  have e : (fun n : Int => UInt8.ofNat n.toNat) ∘ (fun b : UInt8 => (b.toNat : Int)) = id := by
    funext b
    show UInt8.ofNat ((b.toNat : Int)).toNat = b
    rw [Int.toNat_natCast]
    exact UInt8.ofNat_toNat
  rw [e, List.map_id]

theorem lenL_bound {l : List UInt8} {n p : Nat} (h : lenL l = some (n, p)) : n ≤ 16384 ∧ 1 ≤ p ∧ p ≤ l.length := by
  obtain ⟨a, b, rfl, _, h2, h3, h4⟩ := lenL_some h
  refine ⟨by omega, by omega, ?_⟩
  simp
  omega

theorem unpk_eq : ∀ (f : Nat) (l : List UInt8) (acc : List ByteArray), l.length < f → l.length ≤ 1000000000 → unpk f (nums8 l) acc = some (unpkS f l acc)
  | 0, l, acc, h, _ => by omega
  | f + 1, l, acc, hf, hl => by
    simp only [unpk, unpkS]
    rw [nums8_len]
    by_cases h0 : l = []
    · subst h0
      rw [if_pos (by rfl), if_pos rfl]
    · have hl0 : l.length ≠ 0 := fun e => h0 (List.eq_nil_of_length_eq_zero e)
      rw [if_neg hl0, if_neg h0, len_eq l (by omega) h0 _ (by omega)]
      simp only [Option.bind_some]
      cases e : lenL l with
      | none => simp only [lenAns, if_true]
      | some x =>
        obtain ⟨n, p⟩ := x
        obtain ⟨b1, b2, b3⟩ := lenL_bound e
        have g1 : ¬ ((lenAns (some (n, p))).2.2 = false) := by simp [lenAns]
        rw [if_neg g1]
        have g2 : 0 ≤ (n : Int) ∧ (n : Int) ≤ 1000000000 ∧ 1 ≤ (p : Int) ∧ (p : Int) ≤ (l.length : Int) := by omega
        refine (if_pos g2).trans ?_
        show (if (l.length : Int) - (p : Int) < (n : Int) then some (([] : List ByteArray), (24 : Int)) else unpk f ((nums8 l).drop ((p : Int) + (n : Int)).toNat) (acc ++ [strOfNums (((nums8 l).take ((p : Int) + (n : Int)).toNat).drop (p : Int).toNat)])) = some (if l.length < p + n then ([], 24) else unpkS f (l.drop (p + n)) (acc ++ [⟨((l.take (p + n)).drop p).toArray⟩]))
        by_cases hs : l.length < p + n
        · rw [if_pos (by omega), if_pos hs]
        · rw [if_neg (by omega), if_neg hs, show ((p : Int) + (n : Int)).toNat = p + n by omega, Int.toNat_natCast, nums8_drop, nums8_take, nums8_drop, str_nums8]
          exact unpk_eq f _ _ (by rw [List.length_drop]; omega) (by rw [List.length_drop]; omega)

/-- wire.Unpack's answer. -/
def unpackS (l : List UInt8) : List ByteArray × Int := unpkS (l.length + 1) l []

theorem unpack_eq (x : ByteArray) (hx : x.size ≤ 1000000000) : wire_Unpack.f x = some (unpackS x.data.toList) := by
  have hz := size_list x
  unfold wire_Unpack.f unpackS
  rw [if_pos hx]
  have := unpk_eq (x.size + 1) x.data.toList [] (by omega) (by omega)
  rw [hz]
  exact this

theorem packL_bound : ∀ (l : List ByteArray), (∀ s ∈ l, s.size ≤ 9223372036854775807) → (packL l).length ≤ 22 * l.length + (l.map (·.size)).sum
  | [], _ => by simp [packL]
  | s :: r, h => by
    have hs := h s List.mem_cons_self
    have h1 := Lib.itoa_length_le (s.size : Int) (by omega) (by omega)
    have h2 := packL_bound r (fun t ht => h t (List.mem_cons_of_mem _ ht))
    have hz := size_list s
    simp only [packL, List.length_append, List.length_cons, List.map_cons, List.sum_cons]
    omega

theorem pack_eq (l : List ByteArray) (h : (packL l).length + 64 ≤ 140737488355328) : wire_Pack.f l = some ⟨(packL l).toArray⟩ := by
  unfold wire_Pack.f
  rw [if_pos h]
end Go.Proofs.YtgdgbnklgngalaaDoor
