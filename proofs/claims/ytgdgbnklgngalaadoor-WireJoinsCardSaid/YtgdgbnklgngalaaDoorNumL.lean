/- Decimal numerals and length-prefixed texts as lists of bytes: plain laws, of no program. -/
import Derived.Lib.AtoiAll
import Derived.Lib.ItoaNum
import Derived.Lib.ItoaLen
namespace Go.Proofs.YtgdgbnklgngalaaDoor
set_option linter.unusedVariables false
set_option linter.unusedSimpArgs false

def dgt (c : UInt8) : Bool := decide (48 ≤ c.toNat) && decide (c.toNat ≤ 57)
theorem dgt_iff (c : UInt8) : dgt c = true ↔ 48 ≤ c.toNat ∧ c.toNat ≤ 57 := by simp [dgt]
theorem dgt_not (c : UInt8) : dgt c = false ↔ ¬ (48 ≤ c.toNat ∧ c.toNat ≤ 57) := by rw [← dgt_iff]; simp

/-- The number that digits spell, behind 'n'. -/
def valL (n : Nat) (l : List UInt8) : Nat := l.foldl (fun n c => 10 * n + (c.toNat - 48)) n

theorem valL_nil (n : Nat) : valL n [] = n := by unfold valL; rw [List.foldl_nil]
theorem valL_cons (n : Nat) (c : UInt8) (r : List UInt8) : valL n (c :: r) = valL (10 * n + (c.toNat - 48)) r := by unfold valL; rw [List.foldl_cons]

theorem valL_ge : ∀ (l : List UInt8) (n : Nat), n ≤ valL n l
  | [], n => by rw [valL_nil]; exact Nat.le_refl _
  | c :: r, n => by
    have := valL_ge r (10 * n + (c.toNat - 48))
    rw [valL_cons]
    omega

theorem valL_app : ∀ (a b : List UInt8) (n : Nat), valL n (a ++ b) = valL (valL n a) b
  | [], b, n => by rw [valL_nil]; rfl
  | c :: r, b, n => by rw [List.cons_append, valL_cons, valL_cons]; exact valL_app r b _

theorem valL_pow (l : List UInt8) : ∀ (n : Nat), n * 10 ^ l.length ≤ valL n l := by
  induction l with
  | nil =>
    intro n
    rw [List.length_nil, Nat.pow_zero, Nat.mul_one]
    exact Nat.le_refl _
  | cons c r ih =>
    intro n
    have h := ih (10 * n + (c.toNat - 48))
    have e := valL_cons n c r
    rw [e, List.length_cons, Nat.pow_succ]
    generalize 10 ^ r.length = p at h ⊢
    have h2 : 10 * n * p ≤ (10 * n + (c.toNat - 48)) * p := Nat.mul_le_mul_right _ (Nat.le_add_right _ _)
    have h3 : n * (p * 10) = 10 * n * p := by rw [← Nat.mul_assoc, Nat.mul_comm (n * p) 10, Nat.mul_assoc]
    rw [h3]
    exact Nat.le_trans h2 h

/-- A numeral without sign and without leading zeros. -/
def natL (l : List UInt8) : Bool := l.all dgt && (decide (l = [48]) || (decide (l ≠ []) && decide (l.head? ≠ some 48)))

/-- A numeral's number, or the error's code: 2 no numeral, 6 out of an int64's range. -/
def takeM (neg : Bool) (m : List UInt8) : Int × Int :=
  if natL m = true ∧ ¬ (neg = true ∧ m = [48]) then
    (if valL 0 m > (if neg = true then 9223372036854775808 else 9223372036854775807) then (0, 6) else ((if neg = true then -(valL 0 m : Int) else (valL 0 m : Int)), 0))
  else (0, 2)
def takeR (l : List UInt8) : Int × Int := if l.head? = some 45 then takeM true l.tail else takeM false l

theorem parse10 (l : List UInt8) : ∀ (n : Nat), n < 18446744073709551616 → l.all dgt = true → Lib.parseUint10 n l = if valL n l < 18446744073709551616 then .ok (valL n l) else .range := by
  induction l with
  | nil =>
    intro n h _
    have e : Lib.parseUint10 n [] = .ok n := rfl
    have e2 := valL_nil n
    rw [e, e2, if_pos h]
  | cons c r ih =>
    intro n h hd
    rw [List.all_cons, Bool.and_eq_true] at hd
    have hc := (dgt_iff c).1 hd.1
    have hg := valL_ge r (10 * n + (c.toNat - 48))
    have e := valL_cons n c r
    have e2 : Lib.parseUint10 n (c :: r) = if 48 ≤ c.toNat ∧ c.toNat ≤ 57 then (if 1844674407370955162 ≤ n then .range else if 18446744073709551616 ≤ n * 10 + (c.toNat - 48) then .range else Lib.parseUint10 (n * 10 + (c.toNat - 48)) r) else Lib.parseMag [] := rfl
    rw [e, e2, if_pos hc, show n * 10 + (c.toNat - 48) = 10 * n + (c.toNat - 48) by omega]
    by_cases h1 : 1844674407370955162 ≤ n
    · rw [if_pos h1, if_neg (by omega)]
    · rw [if_neg h1]
      by_cases h2 : 18446744073709551616 ≤ 10 * n + (c.toNat - 48)
      · rw [if_pos h2, if_neg (by omega)]
      · rw [if_neg h2]
        exact ih _ (by omega) hd.2

/-- Atoi at a text that 'decimal' takes. -/
theorem atoi_neg (m : List UInt8) (h : natL m = true) (hz : m ≠ [48]) :
    Lib.atoiAll (45 :: m) = if valL 0 m > 9223372036854775808 then .range else .ok (-(valL 0 m : Int)) := by
  have h' : m.all dgt = true ∧ m ≠ [] := by
    simp only [natL, Bool.and_eq_true, Bool.or_eq_true, decide_eq_true_eq] at h
    exact ⟨h.1, h.2.elim (fun e => absurd e hz) (fun e => e.1)⟩
  have e45 : (45 : UInt8).toNat = 45 := rfl
  simp only [Lib.atoiAll, Lib.parseMag, e45, or_true, if_true]
  rw [if_neg h'.2, parse10 m 0 (by omega) h'.1]
  by_cases h1 : valL 0 m < 18446744073709551616
  · rw [if_pos h1]
    by_cases h2 : 9223372036854775808 < valL 0 m
    · simp [h2]
    · simp [h2]
  · rw [if_neg h1, if_pos (by omega)]

theorem atoi_pos (m : List UInt8) (h : natL m = true) :
    Lib.atoiAll m = if valL 0 m > 9223372036854775807 then .range else .ok (valL 0 m : Int) := by
  have h' : m.all dgt = true ∧ m ≠ [] := by
    simp only [natL, Bool.and_eq_true, Bool.or_eq_true, decide_eq_true_eq] at h
    exact ⟨h.1, h.2.elim (fun e => by rw [e]; simp) (fun e => e.1)⟩
  cases m with
  | nil => exact absurd rfl h'.2
  | cons c r =>
    have hc : dgt c = true := by
      have := h'.1
      simp only [List.all_cons, Bool.and_eq_true] at this
      exact this.1
    have hc2 := (dgt_iff c).1 hc
    have n43 : ¬ (c.toNat = 43 ∨ c.toNat = 45) := by omega
    have n45 : ¬ c.toNat = 45 := by omega
    simp only [Lib.atoiAll, Lib.parseMag, if_neg n43, if_neg h'.2]
    rw [parse10 _ 0 (by omega) h'.1]
    by_cases h1 : valL 0 (c :: r) < 18446744073709551616
    · rw [if_pos h1]
      by_cases h2 : 9223372036854775808 ≤ valL 0 (c :: r)
      · rw [if_pos (show valL 0 (c :: r) > 9223372036854775807 by omega)]
        simp [n45, h2]
      · rw [if_neg (show ¬ valL 0 (c :: r) > 9223372036854775807 by omega)]
        simp [n45, h2]
    · rw [if_neg h1, if_pos (by omega)]

theorem head_app {α : Type} {a : List α} (h : a ≠ []) (b : List α) : (a ++ b).head? = a.head? := by
  cases a with
  | nil => exact absurd rfl h
  | cons c r => rfl

/-! Itoa's own texts. -/
theorem dec_spec (u : Nat) : (Lib.decDigits u).all dgt = true ∧ valL 0 (Lib.decDigits u) = u ∧ (u ≠ 0 → (Lib.decDigits u).head? ≠ some 48) ∧ Lib.decDigits u ≠ [] := by
  have one : ∀ i : Fin 10, (UInt8.ofNat (48 + i.val)).toNat = 48 + i.val := by decide +kernel
  induction u using Nat.strongRecOn with
  | _ u ih =>
    by_cases h : u < 10
    · have e := one ⟨u, h⟩
      simp only at e
      rw [Lib.decDigits_one h]
      refine ⟨?_, ?_, ?_, by simp⟩
      · simp only [List.all_cons, List.all_nil, Bool.and_true]
        rw [dgt_iff, e]
        omega
      · simp only [valL_nil, valL_cons, e]
        omega
      · intro hu hh
        simp only [List.head?_cons, Option.some.injEq] at hh
        rw [hh] at e
        have : (48 : UInt8).toNat = 48 := rfl
        omega
    · have e := one ⟨u % 10, Nat.mod_lt _ (by omega)⟩
      simp only at e
      obtain ⟨h1, h2, h3, h4⟩ := ih (u / 10) (by omega)
      rw [show Lib.decDigits u = Lib.decDigits (u / 10) ++ [UInt8.ofNat (48 + u % 10)] by rw [Lib.decDigits, dif_neg h]]
      refine ⟨?_, ?_, ?_, by simp⟩
      · rw [List.all_append, h1]
        simp only [List.all_cons, List.all_nil, Bool.and_true, Bool.true_and]
        rw [dgt_iff, e]
        omega
      · rw [valL_app, h2]
        simp only [valL_nil, valL_cons, e]
        omega
      · intro _
        rw [head_app h4]
        exact h3 (by omega)

theorem dec_nat (u : Nat) : natL (Lib.decDigits u) = true := by
  obtain ⟨h1, h2, h3, h4⟩ := dec_spec u
  unfold natL
  rw [h1]
  by_cases hu : u = 0
  · subst hu
    rw [Lib.decDigits_one (by omega)]
    decide
  · simp [h4, h3 hu]

/-- A numeral is the numeral of its number. -/
theorem dec_back_n : ∀ (n : Nat) (l : List UInt8), l.length = n → natL l = true → Lib.decDigits (valL 0 l) = l := by
  have one : ∀ i : Fin 10, ∀ c : UInt8, c.toNat = 48 + i.val → UInt8.ofNat (48 + i.val) = c := fun i c h => by rw [← h]; exact UInt8.ofNat_toNat
  intro n
  induction n with
  | zero =>
    intro l hl h
    obtain rfl := List.eq_nil_of_length_eq_zero hl
    simp [natL] at h
  | succ n ih =>
    intro l hl h
    obtain ⟨a, c, rfl⟩ : ∃ a c, l = a ++ [c] := ⟨l.dropLast, l.getLast (by rintro rfl; simp at hl), (List.dropLast_concat_getLast _).symm⟩
    have hall : (a ++ [c]).all dgt = true := by
      simp only [natL, Bool.and_eq_true] at h
      exact h.1
    rw [List.all_append] at hall
    simp only [List.all_cons, List.all_nil, Bool.and_true, Bool.and_eq_true] at hall
    have hc := (dgt_iff c).1 hall.2
    have hcc := one ⟨c.toNat - 48, by omega⟩ c (by show c.toNat = 48 + (c.toNat - 48); omega)
    simp only at hcc
    by_cases ha : a = []
    · subst ha
      simp only [List.nil_append, valL_nil, valL_cons]
      rw [Lib.decDigits_one (by omega)]
      rw [show 10 * 0 + (c.toNat - 48) = c.toNat - 48 by omega, hcc]
    · have hhead : (a ++ [c]).head? = a.head? := head_app ha _
      have hne : a.head? ≠ some 48 := by
        simp only [natL, Bool.and_eq_true, Bool.or_eq_true, decide_eq_true_eq] at h
        rcases h.2 with e | e
        · have := congrArg List.length e
          simp at this
          exact absurd this ha
        · rw [hhead] at e; exact e.2
      have hnat : natL a = true := by simp [natL, hall.1, ha, hne]
      have hpos : 1 ≤ valL 0 a := by
        cases a with
        | nil => exact absurd rfl ha
        | cons d r =>
          have hd := hall.1
          simp only [List.all_cons, Bool.and_eq_true] at hd
          have hd2 := (dgt_iff d).1 hd.1
          have hd3 : d.toNat ≠ 48 := fun e => hne (by
            simp only [List.head?_cons, Option.some.injEq]
            have : (48 : UInt8).toNat = 48 := rfl
            exact UInt8.toNat.inj (e.trans this.symm))
          have := valL_ge r (10 * 0 + (d.toNat - 48))
          simp only [valL_nil, valL_cons]
          omega
      have ih' := ih a (by simp at hl; omega) hnat
      rw [valL_app]
      simp only [valL_nil, valL_cons]
      rw [show Lib.decDigits (10 * valL 0 a + (c.toNat - 48)) = Lib.decDigits ((10 * valL 0 a + (c.toNat - 48)) / 10) ++ [UInt8.ofNat (48 + (10 * valL 0 a + (c.toNat - 48)) % 10)] by rw [Lib.decDigits, dif_neg (by omega)]]
      rw [show (10 * valL 0 a + (c.toNat - 48)) / 10 = valL 0 a by omega, show (10 * valL 0 a + (c.toNat - 48)) % 10 = c.toNat - 48 by omega, ih', hcc]

theorem dec_back (l : List UInt8) (h : natL l = true) : Lib.decDigits (valL 0 l) = l := dec_back_n _ l rfl h

theorem dec_head (u : Nat) : (Lib.decDigits u).head? ≠ some 45 := by
  obtain ⟨h1, h2, h3, h4⟩ := dec_spec u
  intro h
  cases hd : Lib.decDigits u with
  | nil => exact h4 hd
  | cons c r =>
    rw [hd] at h h1
    simp only [List.head?_cons, Option.some.injEq] at h
    simp only [List.all_cons, Bool.and_eq_true] at h1
    rw [h] at h1
    have := h1.1
    simp [dgt] at this

theorem takeR_itoa (x : Int) (h0 : -9223372036854775808 ≤ x) (h1 : x ≤ 9223372036854775807) : takeR (Lib.itoa x) = (x, 0) := by
  unfold Lib.itoa
  by_cases hn : x < 0
  · have hz : Lib.decDigits x.natAbs ≠ [48] := by
      intro e
      have := (dec_spec x.natAbs).2.1
      rw [e] at this
      simp [valL_nil, valL_cons] at this
      omega
    rw [if_pos hn]
    unfold takeR takeM
    rw [List.head?_cons, if_pos rfl, List.tail_cons, if_pos ⟨dec_nat _, fun h => hz h.2⟩, (dec_spec _).2.1, if_pos rfl, if_pos rfl, if_neg (by omega)]
    congr 1
    omega
  · rw [if_neg hn]
    unfold takeR takeM
    rw [if_neg (dec_head _), if_pos ⟨dec_nat _, fun h => by simp at h⟩, (dec_spec _).2.1]
    simp only [Bool.false_eq_true, if_false]
    rw [if_neg (by omega)]
    congr 1
    omega

theorem itoa_takeR (l : List UInt8) (v : Int) (h : takeR l = (v, 0)) : Lib.itoa v = l ∧ -9223372036854775808 ≤ v ∧ v ≤ 9223372036854775807 := by
  unfold takeR at h
  by_cases h45 : l.head? = some 45
  · rw [if_pos h45] at h
    obtain ⟨r, rfl⟩ : ∃ r, l = 45 :: r := by
      cases l with
      | nil => simp at h45
      | cons c r => simp at h45; subst h45; exact ⟨r, rfl⟩
    simp only [List.tail_cons, takeM] at h
    split at h
    case isFalse => simp at h
    case isTrue hc =>
      simp only [if_true] at h
      split at h
      case isTrue => simp at h
      case isFalse hb =>
        have hv : v = -(valL 0 r : Int) := (Prod.mk.inj h).1.symm
        have hp : valL 0 r ≠ 0 := by
          intro e
          have := dec_back r hc.1
          rw [e, Lib.decDigits_one (by omega)] at this
          exact hc.2 ⟨trivial, this.symm⟩
        refine ⟨?_, by omega, by omega⟩
        unfold Lib.itoa
        rw [if_pos (by omega), show v.natAbs = valL 0 r by omega, dec_back r hc.1]
  · rw [if_neg h45] at h
    simp only [takeM] at h
    split at h
    case isFalse => simp at h
    case isTrue hc =>
      simp only [Bool.false_eq_true, if_false] at h
      split at h
      case isTrue => simp at h
      case isFalse hb =>
        have hv : v = (valL 0 l : Int) := (Prod.mk.inj h).1.symm
        refine ⟨?_, by omega, by omega⟩
        unfold Lib.itoa
        rw [if_neg (by omega), show v.toNat = valL 0 l by omega, dec_back l hc.1]
end Go.Proofs.YtgdgbnklgngalaaDoor
