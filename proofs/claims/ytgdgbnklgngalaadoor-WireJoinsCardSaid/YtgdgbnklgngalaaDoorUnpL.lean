/- Length-prefixed texts: reading one head, reading all, writing them: plain laws on lists of bytes. -/
import Derived.Test.YtgdgbnklgngalaaDoorNumL
import Derived.Test.YtgdgbnklgngalaaDoorPack
namespace Go.Proofs.YtgdgbnklgngalaaDoor
set_option linter.unusedVariables false
set_option linter.unusedSimpArgs false

/-- The length in front of a text, and how many bytes it took with its colon. -/
def scan (z : Bool) : List UInt8 → Nat → Nat → Option (Nat × Nat)
  | [], _, _ => none
  | c :: r, i, v => if dgt c = true then (if v ≤ 16384 then scan z r (i + 1) (10 * v + (c.toNat - 48)) else none)
    else if i = 0 then none else if c.toNat = 58 then (if 16384 < v then none else if z = true ∧ 1 < i then none else some (v, i + 1)) else none
def lenL (l : List UInt8) : Option (Nat × Nat) := scan (decide (l.head? = some 48)) l 0 0

theorem colon_nd : dgt 58 = false := by decide

theorem scan_colon (z : Bool) (b : List UInt8) : ∀ (a : List UInt8) (i v : Nat), a.all dgt = true → i + a.length ≠ 0 → valL v a ≤ 16384 → ¬ (z = true ∧ 1 < i + a.length) → scan z (a ++ 58 :: b) i v = some (valL v a, i + a.length + 1) := by
  intro a
  induction a with
  | nil =>
    intro i v _ hi hv hz
    rw [valL_nil] at hv ⊢
    simp only [List.nil_append, scan]
    have e58 : (58 : UInt8).toNat = 58 := rfl
    simp only [List.length_nil, Nat.add_zero] at hi hz
    rw [if_neg (by rw [colon_nd]; simp), if_neg hi, if_pos e58, if_neg (by omega), if_neg hz]
    rfl
  | cons c r ih =>
    intro i v hd hi hv hz
    rw [List.all_cons, Bool.and_eq_true] at hd
    rw [valL_cons] at hv ⊢
    have hg := valL_ge r (10 * v + (c.toNat - 48))
    simp only [List.cons_append, scan]
    rw [List.length_cons] at hz
    rw [if_pos hd.1, if_pos (by omega), ih (i + 1) _ hd.2 (by omega) hv (by rw [show i + 1 + r.length = i + (r.length + 1) by omega]; exact hz), List.length_cons, show i + 1 + r.length + 1 = i + (r.length + 1) + 1 by omega]

theorem scan_some (z : Bool) : ∀ (l : List UInt8) (i v m p : Nat), scan z l i v = some (m, p) → ∃ a b, l = a ++ 58 :: b ∧ a.all dgt = true ∧ i + a.length ≠ 0 ∧ valL v a ≤ 16384 ∧ ¬ (z = true ∧ 1 < i + a.length) ∧ m = valL v a ∧ p = i + a.length + 1 := by
  intro l
  induction l with
  | nil => intro i v m p h; simp [scan] at h
  | cons c r ih =>
    intro i v m p h
    simp only [scan] at h
    by_cases hc : dgt c = true
    · rw [if_pos hc] at h
      by_cases hv : v ≤ 16384
      · rw [if_pos hv] at h
        obtain ⟨a, b, e, h1, h2, h3, h4, h5, h6⟩ := ih _ _ _ _ h
        refine ⟨c :: a, b, by rw [e]; rfl, by rw [List.all_cons, hc, h1]; rfl, by simp, by rw [valL_cons]; exact h3, ?_, by rw [valL_cons]; exact h5, by rw [h6, List.length_cons]; omega⟩
        rw [List.length_cons, show i + (a.length + 1) = i + 1 + a.length by omega]
        exact h4
      · rw [if_neg hv] at h; cases h
    · rw [if_neg hc] at h
      by_cases hi : i = 0
      · rw [if_pos hi] at h; cases h
      rw [if_neg hi] at h
      by_cases h58 : c.toNat = 58
      · rw [if_pos h58] at h
        by_cases hv : 16384 < v
        · rw [if_pos hv] at h; cases h
        rw [if_neg hv] at h
        by_cases hz : z = true ∧ 1 < i
        · rw [if_pos hz] at h; cases h
        rw [if_neg hz] at h
        have h2 := Prod.mk.inj (Option.some.inj h)
        have hc2 : c = 58 := UInt8.toNat.inj h58
        exact ⟨[], r, by rw [hc2]; rfl, rfl, by simpa using hi, by rw [valL_nil]; omega, by simpa using hz, by rw [valL_nil]; exact h2.1.symm, by simp [← h2.2]⟩
      · rw [if_neg h58] at h; cases h

theorem nat_all {a : List UInt8} (h : natL a = true) : a.all dgt = true ∧ a ≠ [] ∧ (a.head? = some 48 → a.length = 1) := by
  simp only [natL, Bool.and_eq_true, Bool.or_eq_true, decide_eq_true_eq] at h
  refine ⟨h.1, ?_, ?_⟩
  · rcases h.2 with e | e
    · rw [e]; simp
    · exact e.1
  · intro h48
    rcases h.2 with e | e
    · rw [e]; rfl
    · exact absurd h48 e.2

theorem lenL_mk (a b : List UInt8) (h : natL a = true) (hv : valL 0 a ≤ 16384) : lenL (a ++ 58 :: b) = some (valL 0 a, a.length + 1) := by
  obtain ⟨h1, h2, h3⟩ := nat_all h
  have hp : 0 < a.length := List.length_pos_iff.2 h2
  unfold lenL
  rw [scan_colon _ b a 0 0 h1 (by omega) hv, Nat.zero_add]
  rintro ⟨hz, hl⟩
  rw [head_app h2] at hz
  have := h3 (of_decide_eq_true hz)
  omega

theorem lenL_some {l : List UInt8} {m p : Nat} (h : lenL l = some (m, p)) : ∃ a b, l = a ++ 58 :: b ∧ natL a = true ∧ valL 0 a ≤ 16384 ∧ m = valL 0 a ∧ p = a.length + 1 := by
  obtain ⟨a, b, rfl, h1, h2, h3, h4, h5, h6⟩ := scan_some _ _ _ _ _ _ h
  have ha : a ≠ [] := by rintro rfl; simp at h2
  refine ⟨a, b, rfl, ?_, h3, h5, by omega⟩
  rw [head_app ha] at h4
  unfold natL
  rw [h1]
  by_cases h48 : a.head? = some 48
  · have hl : a.length = 1 := by
      have hp : 0 < a.length := List.length_pos_iff.2 ha
      have : ¬ 1 < 0 + a.length := fun hl => h4 ⟨decide_eq_true h48, hl⟩
      omega
    obtain ⟨c, rfl⟩ := List.length_eq_one_iff.1 hl
    simp only [List.head?_cons, Option.some.injEq] at h48
    subst h48
    decide
  · simp [ha, h48]

theorem nat_head {a : List UInt8} (h : natL a = true) : a.head? ≠ some 45 := by
  obtain ⟨h1, h2, _⟩ := nat_all h
  intro e
  cases a with
  | nil => simp at e
  | cons c r =>
    simp only [List.head?_cons, Option.some.injEq] at e
    rw [List.all_cons, Bool.and_eq_true, dgt_iff, e] at h1
    have : (45 : UInt8).toNat = 45 := rfl
    omega

/-- A length's numeral is short. -/
theorem nat_short {a : List UInt8} (h : natL a = true) (hv : valL 0 a ≤ 16384) : a.length ≤ 6 := by
  obtain ⟨h1, h2, h3⟩ := nat_all h
  cases a with
  | nil => exact absurd rfl h2
  | cons c r =>
    by_cases h48 : c = 48
    · have := h3 (by rw [h48]; rfl)
      omega
    · rw [List.all_cons, Bool.and_eq_true, dgt_iff] at h1
      have hc : c.toNat ≠ 48 := fun e => h48 (UInt8.toNat.inj e)
      have h4 := valL_pow r (10 * 0 + (c.toNat - 48))
      rw [valL_cons] at hv
      rw [List.length_cons]
      apply Classical.byContradiction
      intro hl
      have h5 : (10 : Nat) ^ 6 ≤ 10 ^ r.length := Nat.pow_le_pow_right (by omega) (by omega)
      have h6 : (10 : Nat) ^ 6 = 1000000 := by decide
      have h7 : 1 * 10 ^ r.length ≤ (10 * 0 + (c.toNat - 48)) * 10 ^ r.length := Nat.mul_le_mul_right _ (by omega)
      omega

theorem takeR_nat {a : List UInt8} (h : natL a = true) (hv : valL 0 a ≤ 16384) : takeR a = ((valL 0 a : Int), 0) := by
  unfold takeR takeM
  rw [if_neg (nat_head h), if_pos ⟨h, fun e => by simp at e⟩]
  simp only [Bool.false_eq_true, if_false]
  rw [if_neg (by omega)]

theorem nat_of_takeR {a : List UInt8} {v : Int} (h : takeR a = (v, 0)) (h0 : 0 ≤ v) (h1 : v ≤ 16384) : natL a = true ∧ valL 0 a ≤ 16384 := by
  obtain ⟨e, _, _⟩ := itoa_takeR a v h
  unfold Lib.itoa at e
  rw [if_neg (by omega)] at e
  rw [← e, (dec_spec _).2.1]
  exact ⟨dec_nat _, by omega⟩

/-- The first colon is one place. -/
theorem colon_one : ∀ (a a' b b' : List UInt8), (58 : UInt8) ∉ a → (58 : UInt8) ∉ a' → a ++ 58 :: b = a' ++ 58 :: b' → a = a'
  | [], [], b, b', _, _, _ => rfl
  | [], c :: r, b, b', _, h, e => by
    simp only [List.nil_append, List.cons_append, List.cons.injEq] at e
    exact absurd (by rw [← e.1]; exact List.mem_cons_self) h
  | c :: r, [], b, b', h, _, e => by
    simp only [List.nil_append, List.cons_append, List.cons.injEq] at e
    exact absurd (by rw [e.1]; exact List.mem_cons_self) h
  | c :: r, c' :: r', b, b', h, h', e => by
    simp only [List.cons_append, List.cons.injEq] at e
    rw [e.1, colon_one r r' b b' (fun m => h (List.mem_cons_of_mem _ m)) (fun m => h' (List.mem_cons_of_mem _ m)) e.2]

theorem no_colon {a : List UInt8} (h : a.all dgt = true) : (58 : UInt8) ∉ a := by
  intro m
  have := List.all_eq_true.1 h _ m
  rw [colon_nd] at this
  cases this

/-- A head that is no length. -/
theorem lenL_none {a b : List UInt8} (ha : (58 : UInt8) ∉ a) (h : ¬ (natL a = true ∧ valL 0 a ≤ 16384)) : lenL (a ++ 58 :: b) = none := by
  cases e : lenL (a ++ 58 :: b) with
  | none => rfl
  | some x =>
    obtain ⟨m, p⟩ := x
    obtain ⟨a', b', e1, h1, h2, _, _⟩ := lenL_some e
    rw [colon_one a a' b b' ha (no_colon (nat_all h1).1) e1] at h
    exact absurd ⟨h1, h2⟩ h
theorem lenL_no {a : List UInt8} (ha : (58 : UInt8) ∉ a) : lenL a = none := by
  cases e : lenL a with
  | none => rfl
  | some x =>
    obtain ⟨m, p⟩ := x
    obtain ⟨a', b', e1, h1, h2, _, _⟩ := lenL_some e
    rw [e1] at ha
    simp at ha

/-- Reading all texts. -/
def unpkS : Nat → List UInt8 → List ByteArray → List ByteArray × Int
  | 0, _, _ => ([], 2)
  | f + 1, rest, acc => if rest = [] then (acc, 0) else
    match lenL rest with
    | none => ([], 2)
    | some (n, p) => if rest.length < p + n then ([], 24) else unpkS f (rest.drop (p + n)) (acc ++ [⟨((rest.take (p + n)).drop p).toArray⟩])

theorem itoa_nat (u : Nat) : Lib.itoa (u : Int) = Lib.decDigits u := by
  unfold Lib.itoa
  rw [if_neg (by omega)]
  rfl

theorem unpk_pack : ∀ (l : List ByteArray) (f : Nat) (acc : List ByteArray), (packL l).length < f → (∀ s ∈ l, s.size ≤ 16384) → unpkS f (packL l) acc = (acc ++ l, 0)
  | [], f, acc, hf, _ => by
    obtain ⟨f, rfl⟩ : ∃ g, f = g + 1 := ⟨f - 1, by omega⟩
    simp [unpkS, packL]
  | s :: r, f, acc, hf, hs => by
    obtain ⟨f, rfl⟩ : ∃ g, f = g + 1 := ⟨f - 1, by omega⟩
    have hsz := hs s List.mem_cons_self
    have hd := dec_spec s.size
    have hlen := lenL_mk (Lib.decDigits s.size) (s.data.toList ++ packL r) (dec_nat _) (by rw [hd.2.1]; omega)
    have e : packL (s :: r) = Lib.decDigits s.size ++ 58 :: (s.data.toList ++ packL r) := by simp only [packL, itoa_nat]
    rw [hd.2.1] at hlen
    rw [e] at hf ⊢
    have hsl : s.data.toList.length = s.size := Array.length_toList
    simp only [List.length_append, List.length_cons] at hf
    simp only [unpkS]
    rw [if_neg (by simp), hlen]
    simp only
    rw [if_neg (by simp only [List.length_append, List.length_cons]; omega)]
    have e1 : ((Lib.decDigits s.size ++ 58 :: (s.data.toList ++ packL r)).drop ((Lib.decDigits s.size).length + 1 + s.size)) = packL r := by
      rw [← List.drop_drop, show Lib.decDigits s.size ++ 58 :: (s.data.toList ++ packL r) = (Lib.decDigits s.size ++ [58]) ++ (s.data.toList ++ packL r) by simp, List.drop_left' (by simp), List.drop_left' hsl]
    have e2 : (((Lib.decDigits s.size ++ 58 :: (s.data.toList ++ packL r)).take ((Lib.decDigits s.size).length + 1 + s.size)).drop ((Lib.decDigits s.size).length + 1)) = s.data.toList := by
      rw [← List.take_drop, show Lib.decDigits s.size ++ 58 :: (s.data.toList ++ packL r) = (Lib.decDigits s.size ++ [58]) ++ (s.data.toList ++ packL r) by simp, List.drop_left' (by simp), List.take_left' hsl]
    rw [e1, e2, unpk_pack r f _ (by omega) (fun t ht => hs t (List.mem_cons_of_mem _ ht))]
    simp

theorem pack_unpk : ∀ (f : Nat) (rest : List UInt8) (acc l : List ByteArray), unpkS f rest acc = (l, 0) → packL l = packL acc ++ rest
  | 0, rest, acc, l, h => by simp [unpkS] at h
  | f + 1, rest, acc, l, h => by
    simp only [unpkS] at h
    by_cases h0 : rest = []
    · rw [if_pos h0] at h
      rw [h0, List.append_nil, (Prod.mk.inj h).1]
    · rw [if_neg h0] at h
      cases e : lenL rest with
      | none => rw [e] at h; simp at h
      | some x =>
        obtain ⟨n, p⟩ := x
        rw [e] at h
        simp only at h
        obtain ⟨a, b, rfl, h1, h2, h3, h4⟩ := lenL_some e
        by_cases hl : (a ++ 58 :: b).length < p + n
        · rw [if_pos hl] at h; simp at h
        · rw [if_neg hl] at h
          have ih := pack_unpk f _ _ _ h
          have hlb : n ≤ b.length := by simp at hl; omega
          have e0 : a ++ 58 :: b = (a ++ [58]) ++ b := by simp
          have hp : p = (a ++ [58]).length := by rw [h4]; simp
          have e1 : (a ++ 58 :: b).drop (p + n) = b.drop n := by rw [← List.drop_drop, e0, List.drop_left' hp.symm]
          have e2 : ((a ++ 58 :: b).take (p + n)).drop p = b.take n := by rw [← List.take_drop, e0, List.drop_left' hp.symm]
          have e3 : (⟨(b.take n).toArray⟩ : ByteArray).size = n := by
            show (b.take n).toArray.size = n
            rw [List.size_toArray, List.length_take]
            omega
          rw [e1, e2, packL_append] at ih
          rw [ih]
          have e4 : Lib.itoa (n : Int) = a := by rw [itoa_nat, h3, dec_back a h1]
          simp only [packL, e3, e4]
          simp

theorem unpk_len {f : Nat} {rest : List UInt8} {l : List ByteArray} (h : unpkS f rest [] = (l, 0)) : l.length ≤ rest.length := by
  have h1 := pack_unpk f rest [] l h
  have h2 := packL_len l
  rw [h1] at h2
  simpa [packL] using h2

/-- More rounds than bytes are enough. -/
theorem unpk_more : ∀ (f g : Nat) (rest : List UInt8) (acc : List ByteArray), rest.length < f → rest.length < g → unpkS f rest acc = unpkS g rest acc
  | 0, g, rest, acc, h, _ => by omega
  | f + 1, 0, rest, acc, _, h => by omega
  | f + 1, g + 1, rest, acc, hf, hg => by
    simp only [unpkS]
    by_cases h0 : rest = []
    · rw [if_pos h0, if_pos h0]
    · rw [if_neg h0, if_neg h0]
      cases e : lenL rest with
      | none => rfl
      | some x =>
        obtain ⟨n, p⟩ := x
        obtain ⟨a, b, _, _, _, _, h4⟩ := lenL_some e
        simp only
        by_cases hl : rest.length < p + n
        · rw [if_pos hl, if_pos hl]
        · rw [if_neg hl, if_neg hl]
          exact unpk_more f g _ _ (by rw [List.length_drop]; omega) (by rw [List.length_drop]; omega)

/-! Whole numbers in texts. -/
def intsS : List ByteArray → List Int → List Int × Int
  | [], acc => (acc, 0)
  | s :: r, acc => if (takeR s.data.toList).2 = 0 then intsS r (acc ++ [(takeR s.data.toList).1]) else ([], (takeR s.data.toList).2)
def intsP (xs : List Int) : List ByteArray := xs.map fun x => ⟨(Lib.itoa x).toArray⟩
def takeIntsS (l : List UInt8) (lim : Int) : List Int × Int :=
  let u := unpkS (l.length + 1) l []
  if u.2 = 0 then (if (u.1.length : Int) > lim then ([], 5) else intsS u.1 []) else ([], u.2)

def i64R (x : Int) : Prop := -9223372036854775808 ≤ x ∧ x ≤ 9223372036854775807

theorem intsS_P : ∀ (xs acc : List Int), (∀ x ∈ xs, i64R x) → intsS (intsP xs) acc = (acc ++ xs, 0)
  | [], acc, _ => by simp [intsS, intsP]
  | x :: r, acc, h => by
    have hx := h x List.mem_cons_self
    have e : takeR (⟨(Lib.itoa x).toArray⟩ : ByteArray).data.toList = (x, 0) := takeR_itoa x hx.1 hx.2
    have ih := intsS_P r (acc ++ [x]) (fun y hy => h y (List.mem_cons_of_mem _ hy))
    have ep : intsP (x :: r) = ⟨(Lib.itoa x).toArray⟩ :: intsP r := rfl
    rw [ep]
    simp only [intsS, e, if_true]
    rw [ih]
    simp

theorem intsP_S : ∀ (ts : List ByteArray) (acc vs : List Int), intsS ts acc = (vs, 0) → ∃ ws, vs = acc ++ ws ∧ ts = intsP ws ∧ ∀ x ∈ ws, i64R x
  | [], acc, vs, h => ⟨[], by simp [intsS] at h; simp [h], rfl, fun x hx => absurd hx (by simp)⟩
  | s :: r, acc, vs, h => by
    simp only [intsS] at h
    by_cases hc : (takeR s.data.toList).2 = 0
    · rw [if_pos hc] at h
      obtain ⟨ws, h1, h2, h3⟩ := intsP_S r _ _ h
      obtain ⟨e, b0, b1⟩ := itoa_takeR s.data.toList (takeR s.data.toList).1 (by rw [← hc])
      refine ⟨(takeR s.data.toList).1 :: ws, by rw [h1]; simp, ?_, ?_⟩
      · show s :: r = ⟨(Lib.itoa (takeR s.data.toList).1).toArray⟩ :: intsP ws
        rw [h2, e]
      · intro x hx
        rcases List.mem_cons.1 hx with rfl | hx
        · exact ⟨b0, b1⟩
        · exact h3 x hx
    · rw [if_neg hc] at h
      exact absurd (Prod.mk.inj h).2 hc

theorem intsP_size (xs : List Int) (h : ∀ x ∈ xs, i64R x) : ∀ s ∈ intsP xs, s.size ≤ 21 := by
  intro s hs
  obtain ⟨x, hx, rfl⟩ := List.mem_map.1 hs
  show (Lib.itoa x).toArray.size ≤ 21
  rw [List.size_toArray]
  exact Lib.itoa_length_le x (h x hx).1 (h x hx).2

theorem takeInts_pack (xs : List Int) (h : ∀ x ∈ xs, i64R x) : takeIntsS (packL (intsP xs)) (xs.length : Int) = (xs, 0) := by
  have e := unpk_pack (intsP xs) ((packL (intsP xs)).length + 1) [] (by omega) (fun s hs => Nat.le_trans (intsP_size xs h s hs) (by omega))
  have hl : (intsP xs).length = xs.length := by simp [intsP]
  unfold takeIntsS
  simp only [e, if_true, List.nil_append, hl]
  rw [if_neg (by omega), intsS_P xs [] h]
  rfl

theorem pack_takeInts {l : List UInt8} {lim : Int} {vs : List Int} (h : takeIntsS l lim = (vs, 0)) : packL (intsP vs) = l ∧ vs.length ≤ l.length ∧ ∀ x ∈ vs, i64R x := by
  unfold takeIntsS at h
  simp only at h
  by_cases hc : (unpkS (l.length + 1) l []).2 = 0
  · rw [if_pos hc] at h
    by_cases hl : ((unpkS (l.length + 1) l []).1.length : Int) > lim
    · rw [if_pos hl] at h; simp at h
    · rw [if_neg hl] at h
      obtain ⟨ws, h1, h2, h3⟩ := intsP_S _ _ _ h
      have hu : unpkS (l.length + 1) l [] = ((unpkS (l.length + 1) l []).1, 0) := by rw [← hc]
      have hp := pack_unpk _ _ _ _ hu
      have hll := unpk_len hu
      rw [h2] at hp hll
      obtain rfl : vs = ws := by simpa using h1
      exact ⟨by rw [hp]; rfl, by simpa [intsP] using hll, h3⟩
  · rw [if_neg hc] at h
    exact absurd (Prod.mk.inj h).2 hc
end Go.Proofs.YtgdgbnklgngalaaDoor
