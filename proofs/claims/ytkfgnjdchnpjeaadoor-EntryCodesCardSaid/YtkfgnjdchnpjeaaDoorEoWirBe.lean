/- WirBe: what the law EntryCodes asks of it. -/
import Derived.Test.YtkfgnjdchnpjeaaDoorEoWirA
import Derived.Test.YtkfgnjdchnpjeaaDoorEoQDx13
import Derived.Test.YtkfgnjdchnpjeaaDoorEoQDx14
import Derived.Laws.BitsAllLaws
namespace Go.Proofs.YtkfgnjdchnpjeaaDoor.Pure
open Go.RowKit Go.Proofs.YtkfgnjdchnpjeaaDoor Go.Proofs.YtkfgnjdchnpjeaaDoor.QD Go.Proofs.YtkfgnjdchnpjeaaDoorW.PrintWords
set_option linter.unusedVariables false
set_option linter.unusedSimpArgs false

theorem u64_not (v : Nat) (h : v < 18446744073709551616) : Go.bits .xor .u64 (-1) (v : Int) = ((18446744073709551615 - v : Nat) : Int) := by
  show IntKind.u64.wrap ((BitVec.ofInt 64 (-1) ^^^ BitVec.ofInt 64 (v : Int)).toNat : Int) = _
  have h1 : BitVec.ofInt 64 (-1) = BitVec.allOnes 64 := by decide
  rw [h1, BitVec.allOnes_xor, BitVec.toNat_not, ofInt_u64 v h, IntKind.wrap_u64]
  omega
theorem dig10 : ∀ i : Fin 10, (⟨#[48, 49, 50, 51, 52, 53, 54, 55, 56, 57]⟩ : ByteArray).extract i.val (i.val + 1) = ⟨#[UInt8.ofNat (48 + i.val)]⟩ := by decide +kernel
theorem dec_big {u : Nat} (h : ¬ u < 10) : Lib.decDigits u = Lib.decDigits (u / 10) ++ [UInt8.ofNat (48 + u % 10)] := by rw [Lib.decDigits, dif_neg h]
theorem dec_len (u : Nat) (h : u < 18446744073709551616) : (Lib.decDigits u).length ≤ 20 := by rw [Lib.decDigits_length]; exact Lib.nDigits_le20 u h
theorem nat_step (n k : Nat) (x : ByteArray) (hn : n < 18446744073709551616) (hx : x.size ≤ 1000) (hc : x.data.toList = [] ∨ n ≠ 0) :
    corebankref07_natural.l0 (k + 1) (n : Int) x = corebankref07_natural.l0 k ((n / 10 : Nat) : Int) (⟨#[UInt8.ofNat (48 + n % 10)]⟩ ++ x) := by
  have t0 : Int.tmod (n : Int) 10 = ((n % 10 : Nat) : Int) := by rw [tmodn (by omega)]; omega
  have t1 : Int.tdiv (n : Int) 10 = ((n / 10 : Nat) : Int) := by rw [tdivn (by omega)]; omega
  have e := dig10 ⟨n % 10, Nat.mod_lt _ (by omega)⟩
  simp only at e
  have m10 : n % 10 < 10 := Nat.mod_lt _ (by omega)
  have e1 : IntKind.u64.wrap (((n % 10 : Nat) : Int) + 1) = ((n % 10 + 1 : Nat) : Int) := by rw [u64w (by omega) (by omega)]; omega
  have e2 : IntKind.u64.wrap ((n / 10 : Nat) : Int) = ((n / 10 : Nat) : Int) := u64w (by omega) (by omega)
  have hs1 : (⟨#[UInt8.ofNat (48 + n % 10)]⟩ : ByteArray).size = 1 := rfl
  have g3 : (1 : Nat) + x.size ≤ 9223372036854775807 := by omega
  have body : (if 0 ≤ ((n % 10 : Nat) : Int) then (if ((n % 10 : Nat) : Int) ≤ ((n % 10 + 1 : Nat) : Int) then (if ((n % 10 + 1 : Nat) : Int) ≤ 10 then (if (1 : Nat) + x.size ≤ 9223372036854775807 then corebankref07_natural.l0 k ((n / 10 : Nat) : Int) (⟨#[UInt8.ofNat (48 + n % 10)]⟩ ++ x) else none) else none) else none) else none) = corebankref07_natural.l0 k ((n / 10 : Nat) : Int) (⟨#[UInt8.ofNat (48 + n % 10)]⟩ ++ x) := by
    rw [if_pos (by omega), if_pos (by omega), if_pos (by omega), if_pos g3]
  simp only [corebankref07_natural.l0, t0, t1, e1, e2, Int.toNat_natCast, e, hs1]
  by_cases hx0 : x.toList = []
  · rw [if_pos hx0]
    exact body
  · rw [if_neg hx0]
    have hn0 : n ≠ 0 := hc.resolve_left (fun h => hx0 (by rw [toList_eqv]; exact h))
    rw [if_pos (by omega)]
    exact body
theorem nat_l0 : ∀ (n k : Nat) (x : ByteArray), n < 18446744073709551616 → x.data.toList ≠ [] → x.size + (if n = 0 then 0 else (Lib.decDigits n).length) ≤ 900 → n + 1 ≤ k →
    corebankref07_natural.l0 k (n : Int) x = some ⟨((if n = 0 then [] else Lib.decDigits n) ++ x.data.toList).toArray⟩ := by
  intro n
  induction n using Nat.strongRecOn with
  | _ n ih =>
    intro k x hn hx0 hx hk
    obtain ⟨k, rfl⟩ : ∃ m, k = m + 1 := ⟨k - 1, by omega⟩
    by_cases h0 : n = 0
    · subst h0
      simp only [corebankref07_natural.l0]
      rw [if_neg (by rw [toList_eqv]; exact hx0), if_neg (by omega), if_pos trivial, List.nil_append]
    · have hs1 : (⟨#[UInt8.ofNat (48 + n % 10)]⟩ : ByteArray).size = 1 := rfl
      have hd1 : (⟨#[UInt8.ofNat (48 + n % 10)]⟩ ++ x : ByteArray).data.toList = UInt8.ofNat (48 + n % 10) :: x.data.toList := by rw [app_data]; rfl
      rw [if_neg h0] at hx
      rw [nat_step n k x hn (by omega) (Or.inr h0)]
      have hlen : (Lib.decDigits n).length ≤ 20 := dec_len n hn
      by_cases h10 : n < 10
      · rw [ih (n / 10) (by omega) k _ (by omega) (by rw [hd1]; simp) (by rw [ByteArray.size_append, hs1, if_pos (by omega)]; rw [Lib.decDigits_one h10] at hx; simp only [List.length_singleton] at hx; omega) (by omega)]
        rw [if_pos (by omega), if_neg h0, Lib.decDigits_one h10, hd1, Nat.mod_eq_of_lt h10]
        rfl
      · have hb := dec_big h10
        have hbl : (Lib.decDigits n).length = (Lib.decDigits (n / 10)).length + 1 := by rw [hb]; simp
        rw [ih (n / 10) (by omega) k _ (by omega) (by rw [hd1]; simp) (by rw [ByteArray.size_append, hs1, if_neg (by omega)]; omega) (by omega)]
        rw [if_neg (by omega), if_neg h0, hd1, hb]
        simp
theorem nat_ev (n : Nat) (hn : n < 18446744073709551616) : Ev (fun k => corebankref07_natural.f k (n : Int)) ⟨(Lib.decDigits n).toArray⟩ := by
  refine ⟨n + 2, fun k hk => ?_⟩
  obtain ⟨k, rfl⟩ : ∃ m, k = m + 1 := ⟨k - 1, by omega⟩
  show corebankref07_natural.f (k + 1) (n : Int) = _
  unfold corebankref07_natural.f
  have hs1 : (⟨#[UInt8.ofNat (48 + n % 10)]⟩ ++ (⟨#[]⟩ : ByteArray) : ByteArray).data.toList = [UInt8.ofNat (48 + n % 10)] := by rw [app_data]; rfl
  have hsz : (⟨#[UInt8.ofNat (48 + n % 10)]⟩ ++ (⟨#[]⟩ : ByteArray) : ByteArray).size = 1 := by rw [← size_list, hs1]; rfl
  have hlen : (Lib.decDigits (n / 10)).length ≤ 20 := dec_len _ (by omega)
  rw [nat_step n k ⟨#[]⟩ hn (by show (0 : Nat) ≤ 1000; omega) (Or.inl rfl), nat_l0 (n / 10) k _ (by omega) (by rw [hs1]; simp) (by split <;> omega) (by omega), hs1]
  by_cases h10 : n < 10
  · rw [if_pos (by omega), Lib.decDigits_one h10, Nat.mod_eq_of_lt h10]
    rfl
  · rw [if_neg (by omega), dec_big h10]
def itoaS (x : Int) : ByteArray := ⟨(Lib.itoa x).toArray⟩
theorem int_ev (x : Int) (h : i64R x) : Ev (fun k => corebankref07_Int.f k x) (itoaS x) := by
  obtain ⟨h0, h1⟩ := h
  by_cases hx : x ≥ 0
  · obtain ⟨n, rfl⟩ : ∃ n : Nat, x = (n : Int) := ⟨x.toNat, by omega⟩
    obtain ⟨K, hK⟩ := nat_ev n (by omega)
    refine ⟨K, fun k hk => ?_⟩
    have e : corebankref07_natural.f k (n : Int) = _ := hK k hk
    show corebankref07_Int.f k (n : Int) = _
    unfold corebankref07_Int.f itoaS
    rw [if_pos hx, u64w (by omega) (by omega), e, itoa_nat]
    rfl
  · obtain ⟨n, rfl, hn⟩ : ∃ n : Nat, x = -(n : Int) ∧ 1 ≤ n := ⟨x.natAbs, by omega, by omega⟩
    obtain ⟨K, hK⟩ := nat_ev n (by omega)
    refine ⟨K, fun k hk => ?_⟩
    have e : corebankref07_natural.f k (n : Int) = _ := hK k hk
    have e1 : IntKind.u64.wrap (-(n : Int)) = ((18446744073709551616 - n : Nat) : Int) := by rw [IntKind.wrap_u64]; omega
    have e2 : IntKind.u64.wrap (((18446744073709551615 - (18446744073709551616 - n) : Nat) : Int) + 1) = (n : Int) := by rw [IntKind.wrap_u64]; omega
    have hlen : (Lib.decDigits n).length ≤ 20 := dec_len _ (by omega)
    have hsz : (⟨(Lib.decDigits n).toArray⟩ : ByteArray).size = (Lib.decDigits n).length := by
      show (Lib.decDigits n).toArray.size = _
      rw [List.size_toArray]
    show corebankref07_Int.f k (-(n : Int)) = _
    unfold corebankref07_Int.f itoaS
    rw [if_neg hx, e1, u64_not _ (by omega), e2, e]
    simp only [Option.bind_some]
    rw [if_pos (by omega)]
    congr 1
    apply list_eq
    rw [app_data]
    unfold Lib.itoa
    rw [if_pos (by omega), show (-(n : Int)).natAbs = n by omega]
    rfl
theorem natu_l0 (x : ByteArray) (hx : x.size ≤ 281474976710656) : ∀ (d k i : Nat), x.size - i = d → i ≤ x.size → d + 1 ≤ k →
    corebankref07_Natural.l0 k x (i : Int) = some ((x.data.toList.drop i).all dgt && (decide (x.data.toList = [48]) || (decide (x.data.toList ≠ []) && decide (x.data.toList.head? ≠ some 48)))) := by
  intro d
  induction d with
  | zero =>
    intro k i hd hi hk
    obtain ⟨k, rfl⟩ : ∃ m, k = m + 1 := ⟨k - 1, by omega⟩
    obtain rfl : i = x.size := by omega
    have hz := size_list x
    simp only [corebankref07_Natural.l0]
    rw [if_neg (by omega), drop_end, List.all_nil, Bool.true_and, toList_eqv]
    by_cases h48 : x.data.toList = [48]
    · rw [if_pos h48, decide_eq_true h48]
      rfl
    · rw [if_neg h48, decide_eq_false h48, Bool.false_or]
      cases hx0 : x.data.toList with
      | nil =>
        rw [hx0] at hz
        simp only [List.length_nil] at hz
        rw [if_neg (by omega)]
        rfl
      | cons c r =>
        have hb := bt_zero x c r hx0
        rw [hx0] at hz
        simp only [List.length_cons] at hz
        rw [if_pos (by omega), if_pos (by omega), hb]
        congr 1
        by_cases hc : c = 48
        · subst hc
          rfl
        · have e48 : (48 : UInt8).toNat = 48 := rfl
          have hn : (c.toNat : Int) ≠ 48 := fun e => hc (UInt8.toNat.inj (by omega))
          simp [hc, hn]
  | succ d ih =>
    intro k i hd hi hk
    obtain ⟨k, rfl⟩ : ∃ m, k = m + 1 := ⟨k - 1, by omega⟩
    obtain ⟨c, hdr, hbt, hc⟩ := bt_drop x i (by omega)
    simp only [corebankref07_Natural.l0]
    rw [if_pos (by omega), if_pos (by omega), hbt, hdr, List.all_cons, w64s i (by omega)]
    by_cases h1 : c.toNat < 48
    · rw [if_pos (by omega), (dgt_not c).2 (by omega)]
      rfl
    · rw [if_neg (by omega)]
      by_cases h2 : c.toNat > 57
      · rw [if_pos (by omega), (dgt_not c).2 (by omega)]
        rfl
      · rw [if_neg (by omega), (dgt_iff c).2 (by omega), Bool.true_and]
        exact ih k (i + 1) (by omega) (by omega) (by omega)
theorem natu_ev (x : ByteArray) (hx : x.size ≤ 281474976710656) (k : Nat) (hk : x.size + 1 ≤ k) : corebankref07_Natural.f k x = some (natL x.data.toList) := by
  have := natu_l0 x hx x.size k 0 (by omega) (by omega) hk
  rw [List.drop_zero] at this
  unfold corebankref07_Natural.f natL
  exact this
theorem take_l0 (neg : Bool) (lim : Nat) (hlim : lim = if neg = true then 9223372036854775808 else 9223372036854775807) (x : ByteArray) (hx : x.size ≤ 281474976710656) : ∀ (d k i v : Nat), x.size - i = d → i ≤ x.size → v ≤ lim → d + 1 ≤ k → (x.data.toList.drop i).all dgt = true →
    corebankref07_TakeInt.l0 k neg x (lim : Int) (v : Int) (i : Int) = some (if valL v (x.data.toList.drop i) > lim then (0, 6) else ((if neg = true then -(valL v (x.data.toList.drop i) : Int) else (valL v (x.data.toList.drop i) : Int)), 0)) := by
  have hl1 : lim ≤ 9223372036854775808 := by rw [hlim]; split <;> omega
  have hl2 : 9223372036854775807 ≤ lim := by rw [hlim]; split <;> omega
  intro d
  induction d with
  | zero =>
    intro k i v hd hi hv hk hp
    obtain ⟨k, rfl⟩ : ∃ m, k = m + 1 := ⟨k - 1, by omega⟩
    obtain rfl : i = x.size := by omega
    simp only [corebankref07_TakeInt.l0]
    have hnl : ¬ v > lim := by omega
    rw [if_neg (by omega), drop_end, valL_nil, if_neg hnl]
    cases neg with
    | true =>
      rw [if_pos rfl, if_pos rfl, u64_not v (by omega)]
      have e : wrap64 (IntKind.u64.wrap (((18446744073709551615 - v : Nat) : Int) + 1)) = -(v : Int) := by
        rw [IntKind.wrap_u64]
        unfold wrap64
        omega
      rw [e]
    | false =>
      have hv2 : v ≤ 9223372036854775807 := by
        rw [if_neg (by simp)] at hlim
        omega
      rw [if_neg (by simp), if_neg (by simp), w64 (by omega) (by omega)]
  | succ d ih =>
    intro k i v hd hi hv hk hp
    obtain ⟨k, rfl⟩ : ∃ m, k = m + 1 := ⟨k - 1, by omega⟩
    obtain ⟨c, hdr, hbt, hc⟩ := bt_drop x i (by omega)
    rw [hdr, List.all_cons, Bool.and_eq_true, dgt_iff] at hp
    have hg := valL_ge (x.data.toList.drop (i + 1)) (10 * v + (c.toNat - 48))
    have e1 : ((c.toNat : Int) - 48) % 256 = ((c.toNat - 48 : Nat) : Int) := by omega
    have e2 : IntKind.u64.wrap ((lim : Int) - ((c.toNat - 48 : Nat) : Int)) = ((lim - (c.toNat - 48) : Nat) : Int) := by rw [u64w (by omega) (by omega)]; omega
    have e3 : IntKind.u64.wrap (Int.tdiv ((lim - (c.toNat - 48) : Nat) : Int) 10) = (((lim - (c.toNat - 48)) / 10 : Nat) : Int) := by
      rw [tdivn (by omega), u64w (by omega) (by omega)]
      omega
    simp only [corebankref07_TakeInt.l0]
    rw [if_pos (by omega), if_pos (by omega), hbt, hdr, valL_cons, w64s i (by omega), e1, e2, e3]
    by_cases hb : v > (lim - (c.toNat - 48)) / 10
    · have hb2 : valL (10 * v + (c.toNat - 48)) (x.data.toList.drop (i + 1)) > lim := by omega
      rw [if_pos hb2, if_pos (by omega)]
    · have e4 : IntKind.u64.wrap ((v : Int) * 10) = ((10 * v : Nat) : Int) := by rw [u64w (by omega) (by omega)]; omega
      have e5 : IntKind.u64.wrap (((10 * v : Nat) : Int) + ((c.toNat - 48 : Nat) : Int)) = ((10 * v + (c.toNat - 48) : Nat) : Int) := by rw [u64w (by omega) (by omega)]; omega
      rw [if_neg (by omega), e4, e5]
      exact ih k (i + 1) _ (by omega) (by omega) (by omega) (by omega) hp.2
theorem take_j1 (neg : Bool) (x : ByteArray) (hx : x.size ≤ 281474976710656) (k : Nat) (hk : x.size + 5 ≤ k) : corebankref07_TakeInt.j1 k neg x = some (takeM neg x.data.toList) := by
  obtain ⟨k, rfl⟩ : ∃ m, k = m + 1 + 1 + 1 := ⟨k - 3, by omega⟩
  simp only [corebankref07_TakeInt.j1, corebankref07_TakeInt.j2, corebankref07_TakeInt.j3]
  rw [natu_ev x hx _ (by omega)]
  simp only [Option.bind_some]
  unfold takeM
  by_cases hn : natL x.data.toList = true
  · have hall := (nat_all hn).1
    rw [if_pos hn]
    have hl : ∀ lim : Nat, (lim = if neg = true then 9223372036854775808 else 9223372036854775807) → corebankref07_TakeInt.l0 k neg x (lim : Int) 0 0 = _ := fun lim e => take_l0 neg lim e x hx x.size k 0 0 (by omega) (by omega) (by omega) (by omega) (by rw [List.drop_zero]; exact hall)
    cases neg with
    | true =>
      have h2 := hl 9223372036854775808 rfl
      rw [List.drop_zero] at h2
      rw [if_pos rfl]
      by_cases h48 : x.data.toList = [48]
      · have : (x.toList == ([48] : List UInt8)) = true := by rw [toList_eqv, h48]; rfl
        rw [this, if_pos rfl, if_neg (fun e => e.2 ⟨rfl, h48⟩)]
      · have : (x.toList == ([48] : List UInt8)) = false := by rw [toList_eqv]; exact beq_eq_false_iff_ne.2 h48
        rw [this, if_neg (by simp), if_pos rfl, if_pos ⟨hn, fun e => h48 e.2⟩, if_pos rfl]
        exact h2
    | false =>
      have h2 := hl 9223372036854775807 rfl
      rw [List.drop_zero] at h2
      have c2 : natL x.data.toList = true ∧ ¬(false = true ∧ x.data.toList = [48]) := ⟨hn, fun e => Bool.noConfusion e.1⟩
      have f0 : ¬ false = true := by simp
      rw [if_pos c2, if_neg f0, if_neg f0, if_neg f0, if_neg f0]
      exact h2
  · rw [if_neg hn, if_pos trivial, if_neg (fun e => hn e.1)]
theorem rtake_ev (x : ByteArray) (hx : x.size ≤ 281474976710656) (k : Nat) (hk : x.size + 6 ≤ k) : corebankref07_TakeInt.f k x = some (takeR x.data.toList) := by
  obtain ⟨k, rfl⟩ : ∃ m, k = m + 1 := ⟨k - 1, by omega⟩
  have hz := size_list x
  unfold corebankref07_TakeInt.f takeR
  cases hx0 : x.data.toList with
  | nil =>
    rw [hx0] at hz
    simp only [List.length_nil] at hz
    simp only [corebankref07_TakeInt.j0]
    rw [if_neg (by omega), if_neg (by simp), take_j1 false x hx k (by omega), hx0, if_neg (by simp)]
  | cons c r =>
    have hb := bt_zero x c r hx0
    rw [hx0] at hz
    simp only [List.length_cons] at hz
    simp only [corebankref07_TakeInt.j0]
    rw [if_pos (by omega), if_pos (by omega), hb]
    by_cases h45 : c = 45
    · subst h45
      have e45 : (((45 : UInt8).toNat : Int) == 45) = true := rfl
      have hm : (x.extract 1 x.size).data.toList = r := by
        rw [extract_list, List.take_of_length_le (by rw [size_list]; omega), hx0]
        rfl
      have hms : (x.extract 1 x.size).size = r.length := by rw [← size_list, hm]
      rw [e45, if_pos rfl, if_pos (by omega), take_j1 true _ (by omega) k (by omega), hm, List.head?_cons, if_pos rfl, List.tail_cons]
    · have e45 : (45 : UInt8).toNat = 45 := rfl
      have hc : ((c.toNat : Int) == 45) = false := beq_eq_false_iff_ne.2 fun e => h45 (UInt8.toNat.inj (by omega))
      rw [hc, if_neg (by simp), take_j1 false x hx k (by omega), hx0, if_neg (by simpa using h45)]
end Go.Proofs.YtkfgnjdchnpjeaaDoor.Pure

