/- What the functions of package digest and of its reference compute, on lists of bytes: plain laws, no memory. First part: check digits. -/
import Derived.Test.YtmloobkgnefgcaaDoorQDx1
import Derived.Test.YtmloobkgnefgcaaDoorQDx2
import Derived.Test.YtmloobkgnefgcaaDoorQDx3
namespace Go.Proofs.YtmloobkgnefgcaaDoor.Pure
open Go.RowKit Go.Proofs.YtmloobkgnefgcaaDoor Go.Proofs.YtmloobkgnefgcaaDoor.QD Go.Proofs.YtmloobkgnefgcaaDoorW.PrintWords

/-- Each byte of a text, and the rest behind it. -/
theorem bt_drop (x : ByteArray) (i : Nat) (h : i < x.size) : ∃ c : UInt8, x.data.toList.drop i = c :: x.data.toList.drop (i + 1) ∧ bt x (i : Int) = (c.toNat : Int) ∧ c.toNat < 256 := by
  have hl : i < x.data.toList.length := by simpa using h
  refine ⟨x.data.toList[i], List.drop_eq_getElem_cons hl, ?_, UInt8.toNat_lt _⟩
  unfold bt
  rw [dif_pos (by simpa using h)]
  simp [ByteArray.getElem_eq_getElem_data]

theorem drop_end (x : ByteArray) : x.data.toList.drop x.size = [] := List.drop_eq_nil_of_le (by rw [Array.length_toList]; exact Nat.le_refl _)

def remL (n : Nat) : List UInt8 → Option Nat
  | [] => some n
  | c :: r => if 48 ≤ c.toNat ∧ c.toNat ≤ 57 then remL ((10 * n + (c.toNat - 48)) % 97) r
    else if 65 ≤ c.toNat ∧ c.toNat ≤ 90 then remL ((100 * n + (c.toNat - 65) + 10) % 97) r else none

def okC (c : UInt8) : Bool := (48 ≤ c.toNat && c.toNat ≤ 57) || (65 ≤ c.toNat && c.toNat ≤ 90)
def plainL (l : List UInt8) : Bool := l.all okC

def restL (n : Nat) : List UInt8 → Nat
  | [] => n
  | c :: r => if c.toNat ≤ 57 then restL ((10 * n + (c.toNat - 48)) % 97) r else restL ((100 * n + (c.toNat - 65) + 10) % 97) r

theorem remL_plain : ∀ (l : List UInt8) (n : Nat), remL n l = if plainL l = true then some (restL n l) else none
  | [], n => by simp [remL, plainL, restL]
  | c :: r, n => by
    by_cases h1 : 48 ≤ c.toNat ∧ c.toNat ≤ 57
    · have hc : okC c = true := by simp [okC, h1.1, h1.2]
      simp only [remL, restL, if_pos h1, if_pos h1.2, plainL, List.all_cons, hc, Bool.true_and]
      exact remL_plain r _
    · by_cases h2 : 65 ≤ c.toNat ∧ c.toNat ≤ 90
      · have hc : okC c = true := by simp [okC, h2.1, h2.2]
        simp only [remL, restL, if_neg h1, if_pos h2, if_neg (show ¬ c.toNat ≤ 57 by omega), plainL, List.all_cons, hc, Bool.true_and]
        exact remL_plain r _
      · have hc : okC c = false := by simp [okC]; omega
        simp [remL, if_neg h1, if_neg h2, plainL, hc]

theorem restL_lt : ∀ (l : List UInt8) (n : Nat), n < 97 → restL n l < 97
  | [], n, h => h
  | c :: r, n, h => by
    simp only [restL]
    split <;> exact restL_lt r _ (Nat.mod_lt _ (by omega))

theorem w64 {n : Int} (h0 : -9223372036854775808 ≤ n) (h1 : n ≤ 9223372036854775807) : wrap64 n = n := by unfold wrap64; omega
theorem tmodn {a b : Int} (h : 0 ≤ a) : Int.tmod a b = a % b := Int.tmod_eq_emod_of_nonneg h

theorem rem_l0 (x : ByteArray) (hx : x.size ≤ 140737488351300) : ∀ (d k i n : Nat), x.size - i = d → i ≤ x.size → n < 97 → 2 * d + 2 ≤ k →
    digest_remainder.l0 k x (n : Int) (x.size : Int) (i : Int) = some (match remL n (x.data.toList.drop i) with | some r => ((r : Int), true) | none => (0, false)) := by
  intro d
  induction d with
  | zero =>
    intro k i n hd hi hn hk
    obtain ⟨k, rfl⟩ : ∃ m, k = m + 1 := ⟨k - 1, by omega⟩
    obtain rfl : i = x.size := by omega
    simp only [digest_remainder.l0]
    rw [if_neg (by omega), drop_end]
    rfl
  | succ d ih =>
    intro k i n hd hi hn hk
    obtain ⟨k, rfl⟩ : ∃ m, k = m + 1 + 1 := ⟨k - 2, by omega⟩
    obtain ⟨c, hdr, hbt, hc⟩ := bt_drop x i (by omega)
    simp only [digest_remainder.l0, digest_remainder.j1]
    rw [if_pos (by omega), if_pos (by omega), if_pos (by omega), hdr, hbt, w64 (n := (i : Int) + 1) (by omega) (by omega)]
    by_cases h1 : 48 ≤ c.toNat
    · rw [if_pos (by omega)]
      by_cases h2 : c.toNat ≤ 57
      · rw [decide_eq_true (show (c.toNat : Int) ≤ 57 by omega), if_pos rfl, w64 (n := 10 * (n : Int)) (by omega) (by omega), show ((c.toNat : Int) - 48) % 256 = (c.toNat : Int) - 48 by omega, w64 (by omega) (by omega), tmodn (by omega)]
        have e : (10 * (n : Int) + ((c.toNat : Int) - 48)) % 97 = (((10 * n + (c.toNat - 48)) % 97 : Nat) : Int) := by omega
        rw [e, show ((i : Int) + 1) = ((i + 1 : Nat) : Int) by omega, ih k (i + 1) _ (by omega) (by omega) (Nat.mod_lt _ (by omega)) (by omega)]
        simp only [remL, if_pos (show 48 ≤ c.toNat ∧ c.toNat ≤ 57 from ⟨h1, h2⟩)]
      · rw [decide_eq_false (show ¬ (c.toNat : Int) ≤ 57 by omega), if_neg (by simp)]
        by_cases h3 : 65 ≤ c.toNat
        · rw [if_pos (by omega)]
          by_cases h4 : c.toNat ≤ 90
          · rw [if_pos (by omega), w64 (n := 100 * (n : Int)) (by omega) (by omega), show ((c.toNat : Int) - 65) % 256 = (c.toNat : Int) - 65 by omega, w64 (n := 100 * (n : Int) + ((c.toNat : Int) - 65)) (by omega) (by omega), w64 (by omega) (by omega), tmodn (by omega)]
            have e : (100 * (n : Int) + ((c.toNat : Int) - 65) + 10) % 97 = (((100 * n + (c.toNat - 65) + 10) % 97 : Nat) : Int) := by omega
            rw [e, show ((i : Int) + 1) = ((i + 1 : Nat) : Int) by omega, ih k (i + 1) _ (by omega) (by omega) (Nat.mod_lt _ (by omega)) (by omega)]
            simp only [remL, if_neg (show ¬ (48 ≤ c.toNat ∧ c.toNat ≤ 57) by omega), if_pos (show 65 ≤ c.toNat ∧ c.toNat ≤ 90 from ⟨h3, h4⟩)]
          · rw [if_neg (by omega)]
            simp only [remL, if_neg (show ¬ (48 ≤ c.toNat ∧ c.toNat ≤ 57) by omega), if_neg (show ¬ (65 ≤ c.toNat ∧ c.toNat ≤ 90) by omega)]
        · rw [if_neg (by omega)]
          simp only [remL, if_neg (show ¬ (48 ≤ c.toNat ∧ c.toNat ≤ 57) by omega), if_neg (show ¬ (65 ≤ c.toNat ∧ c.toNat ≤ 90) by omega)]
    · rw [if_neg (by omega), if_neg (by simp), if_neg (by omega)]
      simp only [remL, if_neg (show ¬ (48 ≤ c.toNat ∧ c.toNat ≤ 57) by omega), if_neg (show ¬ (65 ≤ c.toNat ∧ c.toNat ≤ 90) by omega)]

/-- digest.remainder. -/
theorem rem_ev (x : ByteArray) (hx : x.size ≤ 140737488351300) : Ev (fun k => digest_remainder.f k x) (if plainL x.data.toList = true then ((restL 0 x.data.toList : Nat) : Int) else 0, plainL x.data.toList) := by
  refine ⟨2 * x.size + 2, fun k hk => ?_⟩
  have := rem_l0 x hx x.size k 0 0 (by omega) (by omega) (by omega) (by omega)
  refine (show digest_remainder.l0 k x 0 (x.size : Int) 0 = _ from this).trans ?_
  rw [List.drop_zero, remL_plain]
  by_cases hp : plainL x.data.toList = true
  · simp [hp]
  · simp [hp]

theorem plain_l0 (x : ByteArray) (hx : x.size ≤ 140737488351300) : ∀ (d k i : Nat), x.size - i = d → i ≤ x.size → d + 1 ≤ k →
    corebankref08_Plain.l0 k x (i : Int) = some (plainL (x.data.toList.drop i)) := by
  intro d
  induction d with
  | zero =>
    intro k i hd hi hk
    obtain ⟨k, rfl⟩ : ∃ m, k = m + 1 := ⟨k - 1, by omega⟩
    obtain rfl : i = x.size := by omega
    simp only [corebankref08_Plain.l0]
    rw [if_neg (by omega), drop_end]
    rfl
  | succ d ih =>
    intro k i hd hi hk
    obtain ⟨k, rfl⟩ : ∃ m, k = m + 1 := ⟨k - 1, by omega⟩
    obtain ⟨c, hdr, hbt, hc⟩ := bt_drop x i (by omega)
    have hrec := ih k (i + 1) (by omega) (by omega) (by omega)
    simp only [corebankref08_Plain.l0]
    rw [if_pos (by omega), if_pos (by omega), hdr, hbt, w64 (n := (i : Int) + 1) (by omega) (by omega), show ((i : Int) + 1) = ((i + 1 : Nat) : Int) by omega, hrec]
    have hpl : plainL (c :: x.data.toList.drop (i + 1)) = (okC c && plainL (x.data.toList.drop (i + 1))) := rfl
    rw [hpl]
    by_cases h1 : (c.toNat : Int) < 48
    · rw [if_pos h1, if_pos (by omega)]
      have : okC c = false := by simp [okC]; omega
      simp [this]
    · rw [if_neg h1]
      by_cases h2 : (c.toNat : Int) > 57
      · rw [if_pos h2]
        by_cases h3 : (c.toNat : Int) < 65
        · rw [if_pos h3]
          have : okC c = false := by simp [okC]; omega
          simp [this]
        · rw [if_neg h3]
          by_cases h4 : (c.toNat : Int) > 90
          · rw [if_pos h4]
            have : okC c = false := by simp [okC]; omega
            simp [this]
          · rw [if_neg h4]
            have : okC c = true := by simp [okC]; omega
            simp [this]
      · rw [if_neg h2]
        have : okC c = true := by simp [okC]; omega
        simp [this]

theorem plain_ev (x : ByteArray) (hx : x.size ≤ 140737488351300) : Ev (fun k => corebankref08_Plain.f k x) (plainL x.data.toList) :=
  ⟨x.size + 1, fun k hk => by
    have := plain_l0 x hx x.size k 0 (by omega) (by omega) (by omega)
    unfold corebankref08_Plain.f
    rw [List.drop_zero] at this
    exact this⟩

theorem rest_l0 (x : ByteArray) (hx : x.size ≤ 140737488351300) : ∀ (d k i n : Nat), x.size - i = d → i ≤ x.size → n < 97 → d + 1 ≤ k → plainL (x.data.toList.drop i) = true →
    corebankref08_rest.l0 k x (n : Int) (i : Int) = some ((restL n (x.data.toList.drop i) : Nat) : Int) := by
  intro d
  induction d with
  | zero =>
    intro k i n hd hi hn hk hp
    obtain ⟨k, rfl⟩ : ∃ m, k = m + 1 := ⟨k - 1, by omega⟩
    obtain rfl : i = x.size := by omega
    simp only [corebankref08_rest.l0]
    rw [if_neg (by omega), drop_end]
    rfl
  | succ d ih =>
    intro k i n hd hi hn hk hp
    obtain ⟨k, rfl⟩ : ∃ m, k = m + 1 := ⟨k - 1, by omega⟩
    obtain ⟨c, hdr, hbt, hc⟩ := bt_drop x i (by omega)
    rw [hdr] at hp ⊢
    have hpl : (okC c && plainL (x.data.toList.drop (i + 1))) = true := hp
    rw [Bool.and_eq_true] at hpl
    have hok : (48 ≤ c.toNat ∧ c.toNat ≤ 57) ∨ (65 ≤ c.toNat ∧ c.toNat ≤ 90) := by simpa [okC] using hpl.1
    simp only [corebankref08_rest.l0]
    rw [if_pos (by omega), if_pos (by omega), hbt, w64 (n := (i : Int) + 1) (by omega) (by omega)]
    by_cases h2 : c.toNat ≤ 57
    · rw [if_pos (by omega), w64 (n := 10 * (n : Int)) (by omega) (by omega), show ((c.toNat : Int) - 48) % 256 = (c.toNat : Int) - 48 by omega, w64 (by omega) (by omega), tmodn (by omega)]
      have e : (10 * (n : Int) + ((c.toNat : Int) - 48)) % 97 = (((10 * n + (c.toNat - 48)) % 97 : Nat) : Int) := by omega
      rw [e, show ((i : Int) + 1) = ((i + 1 : Nat) : Int) by omega, ih k (i + 1) _ (by omega) (by omega) (Nat.mod_lt _ (by omega)) (by omega) hpl.2]
      simp only [restL, if_pos h2]
    · rw [if_neg (by omega), w64 (n := 100 * (n : Int)) (by omega) (by omega), show ((c.toNat : Int) - 65) % 256 = (c.toNat : Int) - 65 by omega, w64 (n := 100 * (n : Int) + ((c.toNat : Int) - 65)) (by omega) (by omega), w64 (by omega) (by omega), tmodn (by omega)]
      have e : (100 * (n : Int) + ((c.toNat : Int) - 65) + 10) % 97 = (((100 * n + (c.toNat - 65) + 10) % 97 : Nat) : Int) := by omega
      rw [e, show ((i : Int) + 1) = ((i + 1 : Nat) : Int) by omega, ih k (i + 1) _ (by omega) (by omega) (Nat.mod_lt _ (by omega)) (by omega) hpl.2]
      simp only [restL, if_neg h2]

theorem rest_ev (x : ByteArray) (hx : x.size ≤ 140737488351300) (hp : plainL x.data.toList = true) : Ev (fun k => corebankref08_rest.f k x) ((restL 0 x.data.toList : Nat) : Int) :=
  ⟨x.size + 1, fun k hk => by
    have := rest_l0 x hx x.size k 0 0 (by omega) (by omega) (by omega) (by omega) (by simpa using hp)
    unfold corebankref08_rest.f
    rw [List.drop_zero] at this
    exact this⟩
end Go.Proofs.YtmloobkgnefgcaaDoor.Pure
