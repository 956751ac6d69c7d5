/- Text, NumL, UnpL, WirA: what the law EntryCodes asks of it. -/
import Derived.Test.YtkfgnjdchnpjeaaDoorEoWWords
import Derived.Test.YtkfgnjdchnpjeaaDoorEoPack
import Derived.Test.YtkfgnjdchnpjeaaDoorEoUnpack
import Derived.Lib.AtoiAll
import Derived.Lib.ItoaNum
import Derived.Lib.ItoaLen
section
namespace Go.Proofs.YtkfgnjdchnpjeaaDoor
open Go.RowKit Go.Proofs.YtkfgnjdchnpjeaaDoorW.PrintWords
set_option linter.unusedVariables false
set_option linter.unusedSimpArgs false

theorem bt_drop (x : ByteArray) (i : Nat) (h : i < x.size) : ∃ c : UInt8, x.data.toList.drop i = c :: x.data.toList.drop (i + 1) ∧ bt x (i : Int) = (c.toNat : Int) ∧ c.toNat < 256 := by
  have hl : i < x.data.toList.length := by simpa using h
  refine ⟨x.data.toList[i], List.drop_eq_getElem_cons hl, ?_, UInt8.toNat_lt _⟩
  unfold bt
  rw [dif_pos (by simpa using h)]
  simp [ByteArray.getElem_eq_getElem_data]
theorem drop_end (x : ByteArray) : x.data.toList.drop x.size = [] := List.drop_eq_nil_of_le (by rw [Array.length_toList]; exact Nat.le_refl _)
theorem w64 {n : Int} (h0 : -9223372036854775808 ≤ n) (h1 : n ≤ 9223372036854775807) : wrap64 n = n := by unfold wrap64; omega
theorem w64s (i : Nat) (h : i < 9223372036854775807) : wrap64 ((i : Int) + 1) = ((i + 1 : Nat) : Int) := by rw [w64 (by omega) (by omega)]; omega
theorem u64w {n : Int} (h0 : 0 ≤ n) (h1 : n < 18446744073709551616) : IntKind.u64.wrap n = n := by rw [IntKind.wrap_u64]; omega
theorem tmodn {a b : Int} (h : 0 ≤ a) : Int.tmod a b = a % b := Int.tmod_eq_emod_of_nonneg h
theorem tdivn {a b : Int} (h : 0 ≤ a) : Int.tdiv a b = a / b := Int.tdiv_eq_ediv_of_nonneg h
theorem app_data (x y : ByteArray) : (x ++ y).data.toList = x.data.toList ++ y.data.toList := by rw [ByteArray.data_append]; simp
theorem size_list (x : ByteArray) : x.data.toList.length = x.size := Array.length_toList
theorem extract_list (x : ByteArray) (i j : Nat) : (x.extract i j).data.toList = (x.data.toList.take j).drop i := by
  rw [ByteArray.data_extract, Array.toList_extract, List.extract_eq_take_drop]
  rw [List.drop_take]
theorem list_eq {x y : ByteArray} (h : x.data.toList = y.data.toList) : x = y := by
  obtain ⟨a⟩ := x
  obtain ⟨b⟩ := y
  congr 1
  exact Array.toList_inj.1 h
theorem toList_eqv (x : ByteArray) : x.toList = x.data.toList := ByteArray.toList_eq x
theorem bt_zero (x : ByteArray) (c : UInt8) (r : List UInt8) (h : x.data.toList = c :: r) : bt x 0 = (c.toNat : Int) := by
  have hs : 0 < x.size := by rw [← size_list, h]; simp
  obtain ⟨d, hd, hb, _⟩ := bt_drop x 0 hs
  rw [List.drop_zero, h] at hd
  have := (List.cons.inj hd).1
  rw [this]
  exact hb
end Go.Proofs.YtkfgnjdchnpjeaaDoor

end
section
namespace Go.Proofs.YtkfgnjdchnpjeaaDoor
set_option linter.unusedVariables false
set_option linter.unusedSimpArgs false

def dgt (c : UInt8) : Bool := decide (48 ≤ c.toNat) && decide (c.toNat ≤ 57)
theorem dgt_iff (c : UInt8) : dgt c = true ↔ 48 ≤ c.toNat ∧ c.toNat ≤ 57 := by simp [dgt]
theorem dgt_not (c : UInt8) : dgt c = false ↔ ¬ (48 ≤ c.toNat ∧ c.toNat ≤ 57) := by rw [← dgt_iff]; simp
/-- The number that digits spell, behind 'n'. -/
def valL (n : Nat) (l : List UInt8) : Nat := l.foldl (fun n c => 10 * n + (c.toNat - 48)) n
theorem valL_nil (n : Nat) : valL n [] = n := by unfold valL; rw [List.foldl_nil]
theorem valL_cons (n : Nat) (c : UInt8) (r : List UInt8) : valL n (c :: r) = valL (10 * n + (c.toNat - 48)) r := by unfold valL; rw [List.foldl_cons]
theorem valL_ge : ∀ (l : List UInt8) (n : Nat), n ≤ valL n l
  | [], n => by rw [valL_nil]; exact Nat.le_refl _
  | c :: r, n => by
    have := valL_ge r (10 * n + (c.toNat - 48))
    rw [valL_cons]
    omega
theorem valL_app : ∀ (a b : List UInt8) (n : Nat), valL n (a ++ b) = valL (valL n a) b
  | [], b, n => by rw [valL_nil]; rfl
  | c :: r, b, n => by rw [List.cons_append, valL_cons, valL_cons]; exact valL_app r b _
theorem valL_pow (l : List UInt8) : ∀ (n : Nat), n * 10 ^ l.length ≤ valL n l := by
  induction l with
  | nil =>
    intro n
    rw [List.length_nil, Nat.pow_zero, Nat.mul_one]
    exact Nat.le_refl _
  | cons c r ih =>
    intro n
    have h := ih (10 * n + (c.toNat - 48))
    have e := valL_cons n c r
    rw [e, List.length_cons, Nat.pow_succ]
    generalize 10 ^ r.length = p at h ⊢
    have h2 : 10 * n * p ≤ (10 * n + (c.toNat - 48)) * p := Nat.mul_le_mul_right _ (Nat.le_add_right _ _)
    have h3 : n * (p * 10) = 10 * n * p := by rw [← Nat.mul_assoc, Nat.mul_comm (n * p) 10, Nat.mul_assoc]
    rw [h3]
    exact Nat.le_trans h2 h
/-- A numeral without sign and without leading zeros. -/
def natL (l : List UInt8) : Bool := l.all dgt && (decide (l = [48]) || (decide (l ≠ []) && decide (l.head? ≠ some 48)))
/-- A numeral's number, or the error's code: 2 no numeral, 6 out of an int64's range. -/
def takeM (neg : Bool) (m : List UInt8) : Int × Int :=
  if natL m = true ∧ ¬ (neg = true ∧ m = [48]) then
    (if valL 0 m > (if neg = true then 9223372036854775808 else 9223372036854775807) then (0, 6) else ((if neg = true then -(valL 0 m : Int) else (valL 0 m : Int)), 0))
  else (0, 2)
def takeR (l : List UInt8) : Int × Int := if l.head? = some 45 then takeM true l.tail else takeM false l
theorem parse10 (l : List UInt8) : ∀ (n : Nat), n < 18446744073709551616 → l.all dgt = true → Lib.parseUint10 n l = if valL n l < 18446744073709551616 then .ok (valL n l) else .range := by
  induction l with
  | nil =>
    intro n h _
    have e : Lib.parseUint10 n [] = .ok n := rfl
    have e2 := valL_nil n
    rw [e, e2, if_pos h]
  | cons c r ih =>
    intro n h hd
    rw [List.all_cons, Bool.and_eq_true] at hd
    have hc := (dgt_iff c).1 hd.1
    have hg := valL_ge r (10 * n + (c.toNat - 48))
    have e := valL_cons n c r
    have e2 : Lib.parseUint10 n (c :: r) = if 48 ≤ c.toNat ∧ c.toNat ≤ 57 then (if 1844674407370955162 ≤ n then .range else if 18446744073709551616 ≤ n * 10 + (c.toNat - 48) then .range else Lib.parseUint10 (n * 10 + (c.toNat - 48)) r) else Lib.parseMag [] := rfl
    rw [e, e2, if_pos hc, show n * 10 + (c.toNat - 48) = 10 * n + (c.toNat - 48) by omega]
    by_cases h1 : 1844674407370955162 ≤ n
    · rw [if_pos h1, if_neg (by omega)]
    · rw [if_neg h1]
      by_cases h2 : 18446744073709551616 ≤ 10 * n + (c.toNat - 48)
      · rw [if_pos h2, if_neg (by omega)]
      · rw [if_neg h2]
        exact ih _ (by omega) hd.2
/-- Atoi at a text that 'decimal' takes. -/
theorem atoi_neg (m : List UInt8) (h : natL m = true) (hz : m ≠ [48]) :
    Lib.atoiAll (45 :: m) = if valL 0 m > 9223372036854775808 then .range else .ok (-(valL 0 m : Int)) := by
  have h' : m.all dgt = true ∧ m ≠ [] := by
    simp only [natL, Bool.and_eq_true, Bool.or_eq_true, decide_eq_true_eq] at h
    exact ⟨h.1, h.2.elim (fun e => absurd e hz) (fun e => e.1)⟩
  have e45 : (45 : UInt8).toNat = 45 := rfl
  simp only [Lib.atoiAll, Lib.parseMag, e45, or_true, if_true]
  rw [if_neg h'.2, parse10 m 0 (by omega) h'.1]
  by_cases h1 : valL 0 m < 18446744073709551616
  · rw [if_pos h1]
    by_cases h2 : 9223372036854775808 < valL 0 m
    · simp [h2]
    · simp [h2]
  · rw [if_neg h1, if_pos (by omega)]
theorem atoi_pos (m : List UInt8) (h : natL m = true) :
    Lib.atoiAll m = if valL 0 m > 9223372036854775807 then .range else .ok (valL 0 m : Int) := by
  have h' : m.all dgt = true ∧ m ≠ [] := by
    simp only [natL, Bool.and_eq_true, Bool.or_eq_true, decide_eq_true_eq] at h
    exact ⟨h.1, h.2.elim (fun e => by rw [e]; simp) (fun e => e.1)⟩
  cases m with
  | nil => exact absurd rfl h'.2
  | cons c r =>
    have hc : dgt c = true := by
      have := h'.1
      simp only [List.all_cons, Bool.and_eq_true] at this
      exact this.1
    have hc2 := (dgt_iff c).1 hc
    have n43 : ¬ (c.toNat = 43 ∨ c.toNat = 45) := by omega
    have n45 : ¬ c.toNat = 45 := by omega
    simp only [Lib.atoiAll, Lib.parseMag, if_neg n43, if_neg h'.2]
    rw [parse10 _ 0 (by omega) h'.1]
    by_cases h1 : valL 0 (c :: r) < 18446744073709551616
    · rw [if_pos h1]
      by_cases h2 : 9223372036854775808 ≤ valL 0 (c :: r)
      · rw [if_pos (show valL 0 (c :: r) > 9223372036854775807 by omega)]
        simp [n45, h2]
      · rw [if_neg (show ¬ valL 0 (c :: r) > 9223372036854775807 by omega)]
        simp [n45, h2]
    · rw [if_neg h1, if_pos (by omega)]
theorem head_app {α : Type} {a : List α} (h : a ≠ []) (b : List α) : (a ++ b).head? = a.head? := by
  cases a with
  | nil => exact absurd rfl h
  | cons c r => rfl
theorem dec_spec (u : Nat) : (Lib.decDigits u).all dgt = true ∧ valL 0 (Lib.decDigits u) = u ∧ (u ≠ 0 → (Lib.decDigits u).head? ≠ some 48) ∧ Lib.decDigits u ≠ [] := by
  have one : ∀ i : Fin 10, (UInt8.ofNat (48 + i.val)).toNat = 48 + i.val := by decide +kernel
  induction u using Nat.strongRecOn with
  | _ u ih =>
    by_cases h : u < 10
    · have e := one ⟨u, h⟩
      simp only at e
      rw [Lib.decDigits_one h]
      refine ⟨?_, ?_, ?_, by simp⟩
      · simp only [List.all_cons, List.all_nil, Bool.and_true]
        rw [dgt_iff, e]
        omega
      · simp only [valL_nil, valL_cons, e]
        omega
      · intro hu hh
        simp only [List.head?_cons, Option.some.injEq] at hh
        rw [hh] at e
        have : (48 : UInt8).toNat = 48 := rfl
        omega
    · have e := one ⟨u % 10, Nat.mod_lt _ (by omega)⟩
      simp only at e
      obtain ⟨h1, h2, h3, h4⟩ := ih (u / 10) (by omega)
      rw [show Lib.decDigits u = Lib.decDigits (u / 10) ++ [UInt8.ofNat (48 + u % 10)] by rw [Lib.decDigits, dif_neg h]]
      refine ⟨?_, ?_, ?_, by simp⟩
      · rw [List.all_append, h1]
        simp only [List.all_cons, List.all_nil, Bool.and_true, Bool.true_and]
        rw [dgt_iff, e]
        omega
      · rw [valL_app, h2]
        simp only [valL_nil, valL_cons, e]
        omega
      · intro _
        rw [head_app h4]
        exact h3 (by omega)
theorem dec_nat (u : Nat) : natL (Lib.decDigits u) = true := by
  obtain ⟨h1, h2, h3, h4⟩ := dec_spec u
  unfold natL
  rw [h1]
  by_cases hu : u = 0
  · subst hu
    rw [Lib.decDigits_one (by omega)]
    decide
  · simp [h4, h3 hu]
/-- A numeral is the numeral of its number. -/
theorem dec_back_n : ∀ (n : Nat) (l : List UInt8), l.length = n → natL l = true → Lib.decDigits (valL 0 l) = l := by
  have one : ∀ i : Fin 10, ∀ c : UInt8, c.toNat = 48 + i.val → UInt8.ofNat (48 + i.val) = c := fun i c h => by rw [← h]; exact UInt8.ofNat_toNat
  intro n
  induction n with
  | zero =>
    intro l hl h
    obtain rfl := List.eq_nil_of_length_eq_zero hl
    simp [natL] at h
  | succ n ih =>
    intro l hl h
    obtain ⟨a, c, rfl⟩ : ∃ a c, l = a ++ [c] := ⟨l.dropLast, l.getLast (by rintro rfl; simp at hl), (List.dropLast_concat_getLast _).symm⟩
    have hall : (a ++ [c]).all dgt = true := by
      simp only [natL, Bool.and_eq_true] at h
      exact h.1
    rw [List.all_append] at hall
    simp only [List.all_cons, List.all_nil, Bool.and_true, Bool.and_eq_true] at hall
    have hc := (dgt_iff c).1 hall.2
    have hcc := one ⟨c.toNat - 48, by omega⟩ c (by show c.toNat = 48 + (c.toNat - 48); omega)
    simp only at hcc
    by_cases ha : a = []
    · subst ha
      simp only [List.nil_append, valL_nil, valL_cons]
      rw [Lib.decDigits_one (by omega)]
      rw [show 10 * 0 + (c.toNat - 48) = c.toNat - 48 by omega, hcc]
    · have hhead : (a ++ [c]).head? = a.head? := head_app ha _
      have hne : a.head? ≠ some 48 := by
        simp only [natL, Bool.and_eq_true, Bool.or_eq_true, decide_eq_true_eq] at h
        rcases h.2 with e | e
        · have := congrArg List.length e
          simp at this
          exact absurd this ha
        · rw [hhead] at e; exact e.2
      have hnat : natL a = true := by simp [natL, hall.1, ha, hne]
      have hpos : 1 ≤ valL 0 a := by
        cases a with
        | nil => exact absurd rfl ha
        | cons d r =>
          have hd := hall.1
          simp only [List.all_cons, Bool.and_eq_true] at hd
          have hd2 := (dgt_iff d).1 hd.1
          have hd3 : d.toNat ≠ 48 := fun e => hne (by
            simp only [List.head?_cons, Option.some.injEq]
            have : (48 : UInt8).toNat = 48 := rfl
            exact UInt8.toNat.inj (e.trans this.symm))
          have := valL_ge r (10 * 0 + (d.toNat - 48))
          simp only [valL_nil, valL_cons]
          omega
      have ih' := ih a (by simp at hl; omega) hnat
      rw [valL_app]
      simp only [valL_nil, valL_cons]
      rw [show Lib.decDigits (10 * valL 0 a + (c.toNat - 48)) = Lib.decDigits ((10 * valL 0 a + (c.toNat - 48)) / 10) ++ [UInt8.ofNat (48 + (10 * valL 0 a + (c.toNat - 48)) % 10)] by rw [Lib.decDigits, dif_neg (by omega)]]
      rw [show (10 * valL 0 a + (c.toNat - 48)) / 10 = valL 0 a by omega, show (10 * valL 0 a + (c.toNat - 48)) % 10 = c.toNat - 48 by omega, ih', hcc]
theorem dec_back (l : List UInt8) (h : natL l = true) : Lib.decDigits (valL 0 l) = l := dec_back_n _ l rfl h
theorem itoa_takeR (l : List UInt8) (v : Int) (h : takeR l = (v, 0)) : Lib.itoa v = l ∧ -9223372036854775808 ≤ v ∧ v ≤ 9223372036854775807 := by
  unfold takeR at h
  by_cases h45 : l.head? = some 45
  · rw [if_pos h45] at h
    obtain ⟨r, rfl⟩ : ∃ r, l = 45 :: r := by
      cases l with
      | nil => simp at h45
      | cons c r => simp at h45; subst h45; exact ⟨r, rfl⟩
    simp only [List.tail_cons, takeM] at h
    split at h
    case isFalse => simp at h
    case isTrue hc =>
      simp only [if_true] at h
      split at h
      case isTrue => simp at h
      case isFalse hb =>
        have hv : v = -(valL 0 r : Int) := (Prod.mk.inj h).1.symm
        have hp : valL 0 r ≠ 0 := by
          intro e
          have := dec_back r hc.1
          rw [e, Lib.decDigits_one (by omega)] at this
          exact hc.2 ⟨trivial, this.symm⟩
        refine ⟨?_, by omega, by omega⟩
        unfold Lib.itoa
        rw [if_pos (by omega), show v.natAbs = valL 0 r by omega, dec_back r hc.1]
  · rw [if_neg h45] at h
    simp only [takeM] at h
    split at h
    case isFalse => simp at h
    case isTrue hc =>
      simp only [Bool.false_eq_true, if_false] at h
      split at h
      case isTrue => simp at h
      case isFalse hb =>
        have hv : v = (valL 0 l : Int) := (Prod.mk.inj h).1.symm
        refine ⟨?_, by omega, by omega⟩
        unfold Lib.itoa
        rw [if_neg (by omega), show v.toNat = valL 0 l by omega, dec_back l hc.1]
end Go.Proofs.YtkfgnjdchnpjeaaDoor

end
section
namespace Go.Proofs.YtkfgnjdchnpjeaaDoor
set_option linter.unusedVariables false
set_option linter.unusedSimpArgs false

/-- The length in front of a text, and how many bytes it took with its colon. -/
def scan (z : Bool) : List UInt8 → Nat → Nat → Option (Nat × Nat)
  | [], _, _ => none
  | c :: r, i, v => if dgt c = true then (if v ≤ 16384 then scan z r (i + 1) (10 * v + (c.toNat - 48)) else none)
    else if i = 0 then none else if c.toNat = 58 then (if 16384 < v then none else if z = true ∧ 1 < i then none else some (v, i + 1)) else none
def lenL (l : List UInt8) : Option (Nat × Nat) := scan (decide (l.head? = some 48)) l 0 0
theorem colon_nd : dgt 58 = false := by decide
theorem scan_colon (z : Bool) (b : List UInt8) : ∀ (a : List UInt8) (i v : Nat), a.all dgt = true → i + a.length ≠ 0 → valL v a ≤ 16384 → ¬ (z = true ∧ 1 < i + a.length) → scan z (a ++ 58 :: b) i v = some (valL v a, i + a.length + 1) := by
  intro a
  induction a with
  | nil =>
    intro i v _ hi hv hz
    rw [valL_nil] at hv ⊢
    simp only [List.nil_append, scan]
    have e58 : (58 : UInt8).toNat = 58 := rfl
    simp only [List.length_nil, Nat.add_zero] at hi hz
    rw [if_neg (by rw [colon_nd]; simp), if_neg hi, if_pos e58, if_neg (by omega), if_neg hz]
    rfl
  | cons c r ih =>
    intro i v hd hi hv hz
    rw [List.all_cons, Bool.and_eq_true] at hd
    rw [valL_cons] at hv ⊢
    have hg := valL_ge r (10 * v + (c.toNat - 48))
    simp only [List.cons_append, scan]
    rw [List.length_cons] at hz
    rw [if_pos hd.1, if_pos (by omega), ih (i + 1) _ hd.2 (by omega) hv (by rw [show i + 1 + r.length = i + (r.length + 1) by omega]; exact hz), List.length_cons, show i + 1 + r.length + 1 = i + (r.length + 1) + 1 by omega]
theorem scan_some (z : Bool) : ∀ (l : List UInt8) (i v m p : Nat), scan z l i v = some (m, p) → ∃ a b, l = a ++ 58 :: b ∧ a.all dgt = true ∧ i + a.length ≠ 0 ∧ valL v a ≤ 16384 ∧ ¬ (z = true ∧ 1 < i + a.length) ∧ m = valL v a ∧ p = i + a.length + 1 := by
  intro l
  induction l with
  | nil => intro i v m p h; simp [scan] at h
  | cons c r ih =>
    intro i v m p h
    simp only [scan] at h
    by_cases hc : dgt c = true
    · rw [if_pos hc] at h
      by_cases hv : v ≤ 16384
      · rw [if_pos hv] at h
        obtain ⟨a, b, e, h1, h2, h3, h4, h5, h6⟩ := ih _ _ _ _ h
        refine ⟨c :: a, b, by rw [e]; rfl, by rw [List.all_cons, hc, h1]; rfl, by simp, by rw [valL_cons]; exact h3, ?_, by rw [valL_cons]; exact h5, by rw [h6, List.length_cons]; omega⟩
        rw [List.length_cons, show i + (a.length + 1) = i + 1 + a.length by omega]
        exact h4
      · rw [if_neg hv] at h; cases h
    · rw [if_neg hc] at h
      by_cases hi : i = 0
      · rw [if_pos hi] at h; cases h
      rw [if_neg hi] at h
      by_cases h58 : c.toNat = 58
      · rw [if_pos h58] at h
        by_cases hv : 16384 < v
        · rw [if_pos hv] at h; cases h
        rw [if_neg hv] at h
        by_cases hz : z = true ∧ 1 < i
        · rw [if_pos hz] at h; cases h
        rw [if_neg hz] at h
        have h2 := Prod.mk.inj (Option.some.inj h)
        have hc2 : c = 58 := UInt8.toNat.inj h58
        exact ⟨[], r, by rw [hc2]; rfl, rfl, by simpa using hi, by rw [valL_nil]; omega, by simpa using hz, by rw [valL_nil]; exact h2.1.symm, by simp [← h2.2]⟩
      · rw [if_neg h58] at h; cases h
theorem nat_all {a : List UInt8} (h : natL a = true) : a.all dgt = true ∧ a ≠ [] ∧ (a.head? = some 48 → a.length = 1) := by
  simp only [natL, Bool.and_eq_true, Bool.or_eq_true, decide_eq_true_eq] at h
  refine ⟨h.1, ?_, ?_⟩
  · rcases h.2 with e | e
    · rw [e]; simp
    · exact e.1
  · intro h48
    rcases h.2 with e | e
    · rw [e]; rfl
    · exact absurd h48 e.2
theorem lenL_mk (a b : List UInt8) (h : natL a = true) (hv : valL 0 a ≤ 16384) : lenL (a ++ 58 :: b) = some (valL 0 a, a.length + 1) := by
  obtain ⟨h1, h2, h3⟩ := nat_all h
  have hp : 0 < a.length := List.length_pos_iff.2 h2
  unfold lenL
  rw [scan_colon _ b a 0 0 h1 (by omega) hv, Nat.zero_add]
  rintro ⟨hz, hl⟩
  rw [head_app h2] at hz
  have := h3 (of_decide_eq_true hz)
  omega
theorem lenL_some {l : List UInt8} {m p : Nat} (h : lenL l = some (m, p)) : ∃ a b, l = a ++ 58 :: b ∧ natL a = true ∧ valL 0 a ≤ 16384 ∧ m = valL 0 a ∧ p = a.length + 1 := by
  obtain ⟨a, b, rfl, h1, h2, h3, h4, h5, h6⟩ := scan_some _ _ _ _ _ _ h
  have ha : a ≠ [] := by rintro rfl; simp at h2
  refine ⟨a, b, rfl, ?_, h3, h5, by omega⟩
  rw [head_app ha] at h4
  unfold natL
  rw [h1]
  by_cases h48 : a.head? = some 48
  · have hl : a.length = 1 := by
      have hp : 0 < a.length := List.length_pos_iff.2 ha
      have : ¬ 1 < 0 + a.length := fun hl => h4 ⟨decide_eq_true h48, hl⟩
      omega
    obtain ⟨c, rfl⟩ := List.length_eq_one_iff.1 hl
    simp only [List.head?_cons, Option.some.injEq] at h48
    subst h48
    decide
  · simp [ha, h48]
theorem nat_head {a : List UInt8} (h : natL a = true) : a.head? ≠ some 45 := by
  obtain ⟨h1, h2, _⟩ := nat_all h
  intro e
  cases a with
  | nil => simp at e
  | cons c r =>
    simp only [List.head?_cons, Option.some.injEq] at e
    rw [List.all_cons, Bool.and_eq_true, dgt_iff, e] at h1
    have : (45 : UInt8).toNat = 45 := rfl
    omega
/-- A length's numeral is short. -/
theorem nat_short {a : List UInt8} (h : natL a = true) (hv : valL 0 a ≤ 16384) : a.length ≤ 6 := by
  obtain ⟨h1, h2, h3⟩ := nat_all h
  cases a with
  | nil => exact absurd rfl h2
  | cons c r =>
    by_cases h48 : c = 48
    · have := h3 (by rw [h48]; rfl)
      omega
    · rw [List.all_cons, Bool.and_eq_true, dgt_iff] at h1
      have hc : c.toNat ≠ 48 := fun e => h48 (UInt8.toNat.inj e)
      have h4 := valL_pow r (10 * 0 + (c.toNat - 48))
      rw [valL_cons] at hv
      rw [List.length_cons]
      apply Classical.byContradiction
      intro hl
      have h5 : (10 : Nat) ^ 6 ≤ 10 ^ r.length := Nat.pow_le_pow_right (by omega) (by omega)
      have h6 : (10 : Nat) ^ 6 = 1000000 := by decide
      have h7 : 1 * 10 ^ r.length ≤ (10 * 0 + (c.toNat - 48)) * 10 ^ r.length := Nat.mul_le_mul_right _ (by omega)
      omega
theorem takeR_nat {a : List UInt8} (h : natL a = true) (hv : valL 0 a ≤ 16384) : takeR a = ((valL 0 a : Int), 0) := by
  unfold takeR takeM
  rw [if_neg (nat_head h), if_pos ⟨h, fun e => by simp at e⟩]
  simp only [Bool.false_eq_true, if_false]
  rw [if_neg (by omega)]
theorem nat_of_takeR {a : List UInt8} {v : Int} (h : takeR a = (v, 0)) (h0 : 0 ≤ v) (h1 : v ≤ 16384) : natL a = true ∧ valL 0 a ≤ 16384 := by
  obtain ⟨e, _, _⟩ := itoa_takeR a v h
  unfold Lib.itoa at e
  rw [if_neg (by omega)] at e
  rw [← e, (dec_spec _).2.1]
  exact ⟨dec_nat _, by omega⟩
/-- The first colon is one place. -/
theorem colon_one : ∀ (a a' b b' : List UInt8), (58 : UInt8) ∉ a → (58 : UInt8) ∉ a' → a ++ 58 :: b = a' ++ 58 :: b' → a = a'
  | [], [], b, b', _, _, _ => rfl
  | [], c :: r, b, b', _, h, e => by
    simp only [List.nil_append, List.cons_append, List.cons.injEq] at e
    exact absurd (by rw [← e.1]; exact List.mem_cons_self) h
  | c :: r, [], b, b', h, _, e => by
    simp only [List.nil_append, List.cons_append, List.cons.injEq] at e
    exact absurd (by rw [e.1]; exact List.mem_cons_self) h
  | c :: r, c' :: r', b, b', h, h', e => by
    simp only [List.cons_append, List.cons.injEq] at e
    rw [e.1, colon_one r r' b b' (fun m => h (List.mem_cons_of_mem _ m)) (fun m => h' (List.mem_cons_of_mem _ m)) e.2]
theorem no_colon {a : List UInt8} (h : a.all dgt = true) : (58 : UInt8) ∉ a := by
  intro m
  have := List.all_eq_true.1 h _ m
  rw [colon_nd] at this
  cases this
/-- A head that is no length. -/
theorem lenL_none {a b : List UInt8} (ha : (58 : UInt8) ∉ a) (h : ¬ (natL a = true ∧ valL 0 a ≤ 16384)) : lenL (a ++ 58 :: b) = none := by
  cases e : lenL (a ++ 58 :: b) with
  | none => rfl
  | some x =>
    obtain ⟨m, p⟩ := x
    obtain ⟨a', b', e1, h1, h2, _, _⟩ := lenL_some e
    rw [colon_one a a' b b' ha (no_colon (nat_all h1).1) e1] at h
    exact absurd ⟨h1, h2⟩ h
theorem lenL_no {a : List UInt8} (ha : (58 : UInt8) ∉ a) : lenL a = none := by
  cases e : lenL a with
  | none => rfl
  | some x =>
    obtain ⟨m, p⟩ := x
    obtain ⟨a', b', e1, h1, h2, _, _⟩ := lenL_some e
    rw [e1] at ha
    simp at ha
/-- Reading all texts. -/
def unpkS : Nat → List UInt8 → List ByteArray → List ByteArray × Int
  | 0, _, _ => ([], 2)
  | f + 1, rest, acc => if rest = [] then (acc, 0) else
    match lenL rest with
    | none => ([], 2)
    | some (n, p) => if rest.length < p + n then ([], 24) else unpkS f (rest.drop (p + n)) (acc ++ [⟨((rest.take (p + n)).drop p).toArray⟩])
theorem itoa_nat (u : Nat) : Lib.itoa (u : Int) = Lib.decDigits u := by
  unfold Lib.itoa
  rw [if_neg (by omega)]
  rfl
theorem pack_unpk : ∀ (f : Nat) (rest : List UInt8) (acc l : List ByteArray), unpkS f rest acc = (l, 0) → packL l = packL acc ++ rest
  | 0, rest, acc, l, h => by simp [unpkS] at h
  | f + 1, rest, acc, l, h => by
    simp only [unpkS] at h
    by_cases h0 : rest = []
    · rw [if_pos h0] at h
      rw [h0, List.append_nil, (Prod.mk.inj h).1]
    · rw [if_neg h0] at h
      cases e : lenL rest with
      | none => rw [e] at h; simp at h
      | some x =>
        obtain ⟨n, p⟩ := x
        rw [e] at h
        simp only at h
        obtain ⟨a, b, rfl, h1, h2, h3, h4⟩ := lenL_some e
        by_cases hl : (a ++ 58 :: b).length < p + n
        · rw [if_pos hl] at h; simp at h
        · rw [if_neg hl] at h
          have ih := pack_unpk f _ _ _ h
          have hlb : n ≤ b.length := by simp at hl; omega
          have e0 : a ++ 58 :: b = (a ++ [58]) ++ b := by simp
          have hp : p = (a ++ [58]).length := by rw [h4]; simp
          have e1 : (a ++ 58 :: b).drop (p + n) = b.drop n := by rw [← List.drop_drop, e0, List.drop_left' hp.symm]
          have e2 : ((a ++ 58 :: b).take (p + n)).drop p = b.take n := by rw [← List.take_drop, e0, List.drop_left' hp.symm]
          have e3 : (⟨(b.take n).toArray⟩ : ByteArray).size = n := by
            show (b.take n).toArray.size = n
            rw [List.size_toArray, List.length_take]
            omega
          rw [e1, e2, packL_append] at ih
          rw [ih]
          have e4 : Lib.itoa (n : Int) = a := by rw [itoa_nat, h3, dec_back a h1]
          simp only [packL, e3, e4]
          simp
theorem unpk_len {f : Nat} {rest : List UInt8} {l : List ByteArray} (h : unpkS f rest [] = (l, 0)) : l.length ≤ rest.length := by
  have h1 := pack_unpk f rest [] l h
  have h2 := packL_len l
  rw [h1] at h2
  simpa [packL] using h2
def i64R (x : Int) : Prop := -9223372036854775808 ≤ x ∧ x ≤ 9223372036854775807
end Go.Proofs.YtkfgnjdchnpjeaaDoor

end
section
namespace Go.Proofs.YtkfgnjdchnpjeaaDoor
open Go.RowKit Go.Proofs.YtkfgnjdchnpjeaaDoorW.PrintWords
set_option linter.unusedVariables false
set_option linter.unusedSimpArgs false

theorem dec_l0 (x : ByteArray) (hx : x.size ≤ 281474976710656) : ∀ (d k i : Nat), x.size - i = d → i ≤ x.size → d + 1 ≤ k →
    QA.wire_decimal.l0 k x (x.size : Int) (i : Int) = some ((x.data.toList.drop i).all dgt) := by
  intro d
  induction d with
  | zero =>
    intro k i hd hi hk
    obtain ⟨k, rfl⟩ : ∃ m, k = m + 1 := ⟨k - 1, by omega⟩
    obtain rfl : i = x.size := by omega
    simp only [QA.wire_decimal.l0]
    rw [if_neg (by omega), drop_end]
    rfl
  | succ d ih =>
    intro k i hd hi hk
    obtain ⟨k, rfl⟩ : ∃ m, k = m + 1 := ⟨k - 1, by omega⟩
    obtain ⟨c, hdr, hbt, hc⟩ := bt_drop x i (by omega)
    simp only [QA.wire_decimal.l0]
    rw [if_pos (by omega), if_pos (by omega), if_pos (by omega), hbt, hdr, List.all_cons, w64s i (by omega)]
    by_cases h1 : c.toNat < 48
    · rw [if_pos (by omega), (dgt_not c).2 (by omega)]
      rfl
    · rw [if_neg (by omega)]
      by_cases h2 : c.toNat > 57
      · rw [if_pos (by omega), (dgt_not c).2 (by omega)]
        rfl
      · rw [if_neg (by omega), (dgt_iff c).2 (by omega), Bool.true_and]
        exact ih k (i + 1) (by omega) (by omega) (by omega)
/-- A text that 'TakeInt' takes, before its range. -/
def decB (l : List UInt8) : Bool := if l.head? = some 45 then natL l.tail && !(decide (l.tail = [48])) else natL l
theorem natL_nil : natL [] = false := by decide
theorem natL_48 (r : List UInt8) (h : r ≠ []) : natL (48 :: r) = false := by simp [natL, h]
theorem natL_cons {c : UInt8} (r : List UInt8) (h : c ≠ 48) : natL (c :: r) = (c :: r).all dgt := by simp [natL, h]
theorem dec_j1 (x m : ByteArray) (hx : m.size ≤ 281474976710656) (k : Nat) (hk : m.size + 5 ≤ k) (hm : m.size ≤ x.size) (hs : x.size = m.size ∨ x.size = m.size + 1) :
    QA.wire_decimal.j1 k x m = some (natL m.data.toList && !(decide (m.data.toList = [48]) && decide (x.size ≠ m.size))) := by
  obtain ⟨k, rfl⟩ : ∃ n, k = n + 1 := ⟨k - 1, by omega⟩
  obtain ⟨k, rfl⟩ : ∃ n, k = n + 1 := ⟨k - 1, by omega⟩
  have hz := size_list m
  cases hm0 : m.data.toList with
  | nil =>
    simp only [QA.wire_decimal.j1, QA.wire_decimal.j2]
    rw [if_pos (by rw [toList_eqv, hm0]), if_pos trivial, natL_nil]
    rfl
  | cons c r =>
    have hb := bt_zero m c r hm0
    rw [hm0] at hz
    simp only [List.length_cons] at hz
    have hl := dec_l0 m hx m.size k 0 (by omega) (by omega) (by omega)
    rw [List.drop_zero, hm0] at hl
    have hl' : QA.wire_decimal.l0 k m (m.size : Int) 0 = some ((c :: r).all dgt) := hl
    simp only [QA.wire_decimal.j1, QA.wire_decimal.j2]
    rw [if_neg (by rw [toList_eqv, hm0]; simp), if_pos (by omega), hb, hl']
    by_cases h48 : c = 48
    · subst h48
      have e48 : ((48 : UInt8).toNat : Int) = 48 := rfl
      rw [if_pos e48]
      by_cases hr : r = []
      · subst hr
        simp only [List.length_nil] at hz
        by_cases hxs : x.size = m.size
        · rw [decide_eq_false (by omega), if_neg (by simp)]
          have : decide (x.size ≠ m.size) = false := by simp [hxs]
          rw [this]
          rfl
        · rw [decide_eq_true (by omega), if_pos rfl]
          have : decide (x.size ≠ m.size) = true := by simp [hxs]
          rw [this]
          rfl
      · have hrl : 0 < r.length := List.length_pos_iff.2 hr
        rw [decide_eq_true (by omega), if_pos rfl, natL_48 r hr]
        rfl
    · have hc : ¬ (c.toNat : Int) = 48 := fun e => h48 (UInt8.toNat.inj (by have : (48 : UInt8).toNat = 48 := rfl; omega))
      rw [if_neg hc, if_neg (by simp), natL_cons r h48]
      have : decide (c :: r = [48]) = false := by simp [h48]
      rw [this]
      simp
theorem dec_ev (x : ByteArray) (hx : x.size ≤ 281474976710656) (k : Nat) (hk : x.size + 6 ≤ k) : QA.wire_decimal.f k x = some (decB x.data.toList) := by
  obtain ⟨k, rfl⟩ : ∃ n, k = n + 1 := ⟨k - 1, by omega⟩
  have hz := size_list x
  unfold QA.wire_decimal.f
  cases hx0 : x.data.toList with
  | nil =>
    rw [hx0] at hz
    simp only [List.length_nil] at hz
    rw [if_neg (by omega)]
    simp only [QA.wire_decimal.j0]
    rw [if_neg (by simp), dec_j1 x x hx k (by omega) (by omega) (by omega), hx0]
    simp [decB]
  | cons c r =>
    have hb := bt_zero x c r hx0
    rw [hx0] at hz
    simp only [List.length_cons] at hz
    rw [if_pos (by omega), if_pos (by omega), hb]
    simp only [QA.wire_decimal.j0]
    by_cases h45 : c = 45
    · subst h45
      have e45 : (((45 : UInt8).toNat : Int) == 45) = true := rfl
      have hm : (x.extract 1 x.size).data.toList = r := by
        rw [extract_list, List.take_of_length_le (by rw [size_list]; omega), hx0]
        rfl
      have hms : (x.extract 1 x.size).size = r.length := by rw [← size_list, hm]
      rw [e45, if_pos rfl, if_pos (by omega), dec_j1 x _ (by omega) k (by omega) (by omega) (by omega), hm]
      have : decide (x.size ≠ (x.extract 1 x.size).size) = true := decide_eq_true (by omega)
      rw [this, Bool.and_true]
      unfold decB
      rw [List.head?_cons, if_pos rfl]
      rfl
    · have hc : ((c.toNat : Int) == 45) = false := beq_eq_false_iff_ne.2 fun e => h45 (UInt8.toNat.inj (by have : (45 : UInt8).toNat = 45 := rfl; omega))
      rw [hc, if_neg (by simp), dec_j1 x x hx k (by omega) (by omega) (by omega), hx0]
      simp [decB, h45]
theorem takeInt_eq (x : ByteArray) (hx : x.size ≤ 281474976710656) : wire_TakeInt.f x = some (takeR x.data.toList) := by
  unfold wire_TakeInt.f
  rw [if_pos hx, dec_ev x hx _ (by omega)]
  simp only [Option.bind_some]
  congr 1
  unfold decB takeR takeM
  by_cases h45 : x.data.toList.head? = some 45
  · obtain ⟨r, hr⟩ : ∃ r, x.data.toList = 45 :: r := by
      cases h : x.data.toList with
      | nil => rw [h] at h45; simp at h45
      | cons c r => rw [h] at h45; simp at h45; subst h45; exact ⟨r, rfl⟩
    rw [if_pos h45, if_pos h45, hr, List.tail_cons]
    by_cases hn : natL r = true
    · by_cases h48 : r = [48]
      · subst h48
        rfl
      · have hd : decide (r = [48]) = false := decide_eq_false h48
        have c1 : (natL r && !decide (r = [48])) = true := by rw [hn, hd]; rfl
        have c2 : natL r = true ∧ ¬(true = true ∧ r = [48]) := ⟨hn, fun e => h48 e.2⟩
        rw [if_pos c1, if_pos c2, atoi_neg r hn h48, if_pos (rfl : true = true), if_pos (rfl : true = true)]
        by_cases hv : valL 0 r > 9223372036854775808
        · rw [if_pos hv, if_pos hv]; rfl
        · rw [if_neg hv, if_neg hv]; rfl
    · have hf : natL r = false := Bool.eq_false_iff.2 hn
      rw [hf]
      rfl
  · rw [if_neg h45, if_neg h45]
    by_cases hn : natL x.data.toList = true
    · have c2 : natL x.data.toList = true ∧ ¬(false = true ∧ x.data.toList = [48]) := ⟨hn, fun e => Bool.noConfusion e.1⟩
      rw [if_pos hn, if_pos c2, atoi_pos _ hn, if_neg (show ¬ false = true by simp), if_neg (show ¬ false = true by simp)]
      by_cases hv : valL 0 x.data.toList > 9223372036854775807
      · rw [if_pos hv, if_pos hv]; rfl
      · rw [if_neg hv, if_neg hv]; rfl
    · rw [if_neg hn, if_neg (fun e => hn e.1)]
def nums8 (l : List UInt8) : List Int := l.map fun b => (b.toNat : Int)
theorem nums8_len (l : List UInt8) : (nums8 l).length = l.length := by simp [nums8]
theorem rd_nums8 (l : List UInt8) (i : Nat) (c : UInt8) (r : List UInt8) (h : l.drop i = c :: r) : rd (nums8 l) (i : Int) = (c.toNat : Int) := by
  have hi : l[i]? = some c := by
    have := List.getElem?_drop (xs := l) (i := i) (j := 0)
    rw [h] at this
    simpa using this.symm
  unfold rd
  simp [nums8, List.getD, hi]
def lenAns (o : Option (Nat × Nat)) : Int × Int × Bool := match o with
  | some (m, p) => ((m : Int), (p : Int), true)
  | none => (0, 0, false)
theorem len_l0 (l : List UInt8) (hl : l.length ≤ 281474976710656) (h0 : UInt8) (t : List UInt8) (hlt : l = h0 :: t) : ∀ (d k i v : Nat), l.length - i = d → i ≤ l.length → v ≤ 163849 → d + 1 ≤ k →
    QA.wire_length.l0 k (nums8 l) (v : Int) (i : Int) = some (lenAns (scan (decide (l.head? = some 48)) (l.drop i) i v)) := by
  intro d
  induction d with
  | zero =>
    intro k i v hd hi hv hk
    obtain ⟨k, rfl⟩ : ∃ m, k = m + 1 := ⟨k - 1, by omega⟩
    obtain rfl : i = l.length := by omega
    have hl0 : l.length ≠ 0 := by rw [hlt]; simp
    simp only [QA.wire_length.l0]
    rw [if_neg (by rw [nums8_len]; omega), if_neg (by omega), if_pos (by rw [nums8_len]), List.drop_length]
    rfl
  | succ d ih =>
    intro k i v hd hi hv hk
    obtain ⟨k, rfl⟩ : ∃ m, k = m + 1 := ⟨k - 1, by omega⟩
    obtain ⟨c, hdr⟩ : ∃ c, l.drop i = c :: l.drop (i + 1) := ⟨l[i]'(by omega), List.drop_eq_getElem_cons (by omega)⟩
    have hb := rd_nums8 l i c _ hdr
    have hb0 : rd (nums8 l) 0 = (h0.toNat : Int) := rd_nums8 l 0 h0 t (by rw [List.drop_zero, hlt])
    have hc : c.toNat < 256 := UInt8.toNat_lt _
    have hn := nums8_len l
    simp only [QA.wire_length.l0]
    rw [if_pos (by omega), if_pos (by omega), hb, hb0, hdr]
    simp only [scan]
    by_cases hd1 : dgt c = true
    · have h1 := (dgt_iff c).1 hd1
      rw [if_pos (by omega), if_pos (by omega), if_pos hd1]
      by_cases hv1 : v ≤ 16384
      · have e1 : wrap64 (wrap64 (10 * (v : Int)) + (((c.toNat : Int) - 48) % 256)) = ((10 * v + (c.toNat - 48) : Nat) : Int) := by
          rw [w64 (n := 10 * (v : Int)) (by omega) (by omega), w64 (by omega) (by omega)]
          omega
        rw [if_pos (by omega), if_pos hv1, e1, w64s i (by omega)]
        exact ih k (i + 1) _ (by omega) (by omega) (by omega) (by omega)
      · rw [if_neg (by omega), if_neg hv1]
        by_cases hi0 : (i : Int) = 0
        · rw [if_pos hi0]; rfl
        · rw [if_neg hi0, if_neg (by omega), if_neg (by omega)]; rfl
    · have h1 := (dgt_not c).1 (by simpa using hd1)
      have tail : (if (i : Int) = 0 then some ((0 : Int), (0 : Int), false) else (if (i : Int) = ((nums8 l).length : Int) then some (0, 0, false) else (if (c.toNat : Int) = 58 then (if (v : Int) > 16384 then some (0, 0, false) else (if (0 : Int) < ((nums8 l).length : Int) then (if (h0.toNat : Int) = 48 then (if (i : Int) > 1 then some (0, 0, false) else some ((v : Int), wrap64 ((i : Int) + 1), true)) else some ((v : Int), wrap64 ((i : Int) + 1), true)) else none)) else some (0, 0, false)))) =
          some (lenAns (if i = 0 then none else if c.toNat = 58 then (if 16384 < v then none else if decide (l.head? = some 48) = true ∧ 1 < i then none else some (v, i + 1)) else none)) := by
        by_cases hi0 : i = 0
        · rw [if_pos (by omega), if_pos hi0]; rfl
        · rw [if_neg (by omega), if_neg hi0, if_neg (by omega)]
          by_cases h58 : c.toNat = 58
          · rw [if_pos (by omega), if_pos h58]
            by_cases hv1 : 16384 < v
            · rw [if_pos (by omega), if_pos hv1]; rfl
            · rw [if_neg (by omega), if_neg hv1, if_pos (by omega), w64s i (by omega)]
              have hh : decide (l.head? = some 48) = true ↔ (h0.toNat : Int) = 48 := by
                rw [hlt]
                simp only [List.head?_cons, Option.some.injEq, decide_eq_true_eq]
                have e48 : (48 : UInt8).toNat = 48 := rfl
                constructor
                · intro e; rw [e]; rfl
                · intro e; exact UInt8.toNat.inj (by omega)
              by_cases hz : (h0.toNat : Int) = 48
              · rw [if_pos hz]
                by_cases h1 : 1 < i
                · rw [if_pos (by omega), if_pos ⟨hh.2 hz, h1⟩]; rfl
                · rw [if_neg (by omega), if_neg (fun e => h1 e.2)]; rfl
              · rw [if_neg hz, if_neg (fun e => hz (hh.1 e.1))]; rfl
          · rw [if_neg (by omega), if_neg h58]; rfl
      rw [if_neg hd1]
      by_cases h48 : (c.toNat : Int) ≥ 48
      · rw [if_pos h48, if_neg (by omega)]
        exact tail
      · rw [if_neg h48]
        exact tail
theorem len_eq (l : List UInt8) (hl : l.length ≤ 281474976710656) (h0 : l ≠ []) (k : Nat) (hk : l.length + 1 ≤ k) : QA.wire_length.f k (nums8 l) = some (lenAns (lenL l)) := by
  cases l with
  | nil => exact absurd rfl h0
  | cons c r => exact len_l0 (c :: r) hl c r rfl (c :: r).length k 0 0 rfl (Nat.zero_le _) (Nat.zero_le _) hk
theorem nums8_take (l : List UInt8) (n : Nat) : (nums8 l).take n = nums8 (l.take n) := by simp [nums8, List.map_take]
theorem nums8_drop (l : List UInt8) (n : Nat) : (nums8 l).drop n = nums8 (l.drop n) := by simp [nums8, List.map_drop]
theorem str_nums8 (l : List UInt8) : strOfNums (nums8 l) = ⟨l.toArray⟩ := by
  unfold strOfNums nums8
  rw [List.map_map]
  congr 2
  have e : (fun n : Int => UInt8.ofNat n.toNat) ∘ (fun b : UInt8 => (b.toNat : Int)) = id := by
    funext b
    show UInt8.ofNat ((b.toNat : Int)).toNat = b
    rw [Int.toNat_natCast]
    exact UInt8.ofNat_toNat
  rw [e, List.map_id]
theorem lenL_bound {l : List UInt8} {n p : Nat} (h : lenL l = some (n, p)) : n ≤ 16384 ∧ 1 ≤ p ∧ p ≤ l.length := by
  obtain ⟨a, b, rfl, _, h2, h3, h4⟩ := lenL_some h
  refine ⟨by omega, by omega, ?_⟩
  simp
  omega
theorem unpk_eq : ∀ (f : Nat) (l : List UInt8) (acc : List ByteArray), l.length < f → l.length ≤ 1000000000 → unpk f (nums8 l) acc = some (unpkS f l acc)
  | 0, l, acc, h, _ => by omega
  | f + 1, l, acc, hf, hl => by
    simp only [unpk, unpkS]
    rw [nums8_len]
    by_cases h0 : l = []
    · subst h0
      rw [if_pos (by rfl), if_pos rfl]
    · have hl0 : l.length ≠ 0 := fun e => h0 (List.eq_nil_of_length_eq_zero e)
      rw [if_neg hl0, if_neg h0, len_eq l (by omega) h0 _ (by omega)]
      simp only [Option.bind_some]
      cases e : lenL l with
      | none => simp only [lenAns, if_true]
      | some x =>
        obtain ⟨n, p⟩ := x
        obtain ⟨b1, b2, b3⟩ := lenL_bound e
        have g1 : ¬ ((lenAns (some (n, p))).2.2 = false) := by simp [lenAns]
        rw [if_neg g1]
        have g2 : 0 ≤ (n : Int) ∧ (n : Int) ≤ 1000000000 ∧ 1 ≤ (p : Int) ∧ (p : Int) ≤ (l.length : Int) := by omega
        refine (if_pos g2).trans ?_
        show (if (l.length : Int) - (p : Int) < (n : Int) then some (([] : List ByteArray), (24 : Int)) else unpk f ((nums8 l).drop ((p : Int) + (n : Int)).toNat) (acc ++ [strOfNums (((nums8 l).take ((p : Int) + (n : Int)).toNat).drop (p : Int).toNat)])) = some (if l.length < p + n then ([], 24) else unpkS f (l.drop (p + n)) (acc ++ [⟨((l.take (p + n)).drop p).toArray⟩]))
        by_cases hs : l.length < p + n
        · rw [if_pos (by omega), if_pos hs]
        · rw [if_neg (by omega), if_neg hs, show ((p : Int) + (n : Int)).toNat = p + n by omega, Int.toNat_natCast, nums8_drop, nums8_take, nums8_drop, str_nums8]
          exact unpk_eq f _ _ (by rw [List.length_drop]; omega) (by rw [List.length_drop]; omega)
/-- wire.Unpack's answer. -/
def unpackS (l : List UInt8) : List ByteArray × Int := unpkS (l.length + 1) l []
theorem unpack_eq (x : ByteArray) (hx : x.size ≤ 1000000000) : wire_Unpack.f x = some (unpackS x.data.toList) := by
  have hz := size_list x
  unfold wire_Unpack.f unpackS
  rw [if_pos hx]
  have := unpk_eq (x.size + 1) x.data.toList [] (by omega) (by omega)
  rw [hz]
  exact this
theorem packL_bound : ∀ (l : List ByteArray), (∀ s ∈ l, s.size ≤ 9223372036854775807) → (packL l).length ≤ 22 * l.length + (l.map (·.size)).sum
  | [], _ => by simp [packL]
  | s :: r, h => by
    have hs := h s List.mem_cons_self
    have h1 := Lib.itoa_length_le (s.size : Int) (by omega) (by omega)
    have h2 := packL_bound r (fun t ht => h t (List.mem_cons_of_mem _ ht))
    have hz := size_list s
    simp only [packL, List.length_append, List.length_cons, List.map_cons, List.sum_cons]
    omega
theorem pack_eq (l : List ByteArray) (h : (packL l).length + 64 ≤ 140737488355328) : wire_Pack.f l = some ⟨(packL l).toArray⟩ := by
  unfold wire_Pack.f
  rw [if_pos h]
end Go.Proofs.YtkfgnjdchnpjeaaDoor

end
