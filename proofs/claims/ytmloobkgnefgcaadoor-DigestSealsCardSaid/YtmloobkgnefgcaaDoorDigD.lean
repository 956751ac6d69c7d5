/- Values modulo 97: of texts one after the other; a change of one digit or letter changes the value. -/
import Derived.Test.YtmloobkgnefgcaaDoorDigC
namespace Go.Proofs.YtmloobkgnefgcaaDoor.Pure
open Go.RowKit Go.Proofs.YtmloobkgnefgcaaDoor Go.Proofs.YtmloobkgnefgcaaDoor.QD Go.Proofs.YtmloobkgnefgcaaDoorW.PrintWords

/-- By how much a text shifts what stands ahead of it. -/
def pw : List UInt8 → Nat
  | [] => 1
  | c :: r => if c.toNat ≤ 57 then 10 * pw r else 100 * pw r
/-- A text's value. -/
def vl : List UInt8 → Nat
  | [] => 0
  | c :: r => if c.toNat ≤ 57 then (c.toNat - 48) * pw r + vl r else (c.toNat - 65 + 10) * pw r + vl r

theorem mod_in (x p v : Nat) : ((x % 97) * p + v) % 97 = (x * p + v) % 97 := by
  rw [Nat.add_mod, Nat.mul_mod, Nat.mod_mod, ← Nat.mul_mod, ← Nat.add_mod]

theorem restL_eq : ∀ (l : List UInt8) (n : Nat), n < 97 → restL n l = (n * pw l + vl l) % 97
  | [], n, h => by simp [restL, pw, vl]; omega
  | c :: r, n, h => by
    simp only [restL, pw, vl]
    by_cases hc : c.toNat ≤ 57
    · rw [if_pos hc, if_pos hc, if_pos hc, restL_eq r _ (Nat.mod_lt _ (by omega)), mod_in, Nat.add_mul, Nat.mul_comm 10 n, Nat.mul_assoc, Nat.add_assoc]
    · rw [if_neg hc, if_neg hc, if_neg hc, restL_eq r _ (Nat.mod_lt _ (by omega)), mod_in, Nat.add_assoc (100 * n), Nat.add_mul, Nat.mul_comm 100 n, Nat.mul_assoc, Nat.add_assoc]

theorem restL_app : ∀ (a b : List UInt8) (n : Nat), restL n (a ++ b) = restL (restL n a) b
  | [], b, n => rfl
  | c :: r, b, n => by
    simp only [List.cons_append, restL]
    split <;> exact restL_app r b _

/-- What is cancelled: a power of ten modulo 97. -/
theorem pw_cancel : ∀ (l : List UInt8) (x y : Nat), (x * pw l) % 97 = (y * pw l) % 97 → x % 97 = y % 97
  | [], x, y, h => by simpa [pw] using h
  | c :: r, x, y, h => by
    simp only [pw] at h
    by_cases hc : c.toNat ≤ 57
    · rw [if_pos hc, ← Nat.mul_assoc, ← Nat.mul_assoc] at h
      have := pw_cancel r _ _ h
      omega
    · rw [if_neg hc, ← Nat.mul_assoc, ← Nat.mul_assoc] at h
      have := pw_cancel r _ _ h
      omega

/-- A text with one byte replaced by another of its kind: the values differ. -/
theorem restL_change (a b : List UInt8) (c d : UInt8) (hc : okC c = true) (hd : okC d = true) (hk : (c.toNat ≤ 57) ↔ (d.toNat ≤ 57)) (h : restL 0 (a ++ c :: b) = restL 0 (a ++ d :: b)) : c = d := by
  rw [restL_app, restL_app] at h
  have hn := restL_lt a 0 (by omega)
  generalize restL 0 a = n at h hn
  have oc : (48 ≤ c.toNat ∧ c.toNat ≤ 57) ∨ (65 ≤ c.toNat ∧ c.toNat ≤ 90) := by simpa [okC] using hc
  have od : (48 ≤ d.toNat ∧ d.toNat ≤ 57) ∨ (65 ≤ d.toNat ∧ d.toNat ≤ 90) := by simpa [okC] using hd
  have key : ∀ x y : Nat, restL (x % 97) b = restL (y % 97) b → x % 97 = y % 97 := by
    intro x y e
    rw [restL_eq b _ (Nat.mod_lt _ (by omega)), restL_eq b _ (Nat.mod_lt _ (by omega))] at e
    have e2 : ((x % 97) * pw b) % 97 = ((y % 97) * pw b) % 97 := by omega
    have := pw_cancel b _ _ e2
    omega
  simp only [restL] at h
  apply UInt8.toNat_inj.mp
  by_cases h1 : c.toNat ≤ 57
  · rw [if_pos h1, if_pos (hk.1 h1)] at h
    have := key _ _ h
    have := hk.1 h1
    omega
  · rw [if_neg h1, if_neg (fun h2 => h1 (hk.2 h2))] at h
    have := key _ _ h
    have : ¬ d.toNat ≤ 57 := fun h2 => h1 (hk.2 h2)
    omega

/-- What Seal returns has the value 1 modulo 97. -/
theorem restL_two (l : List UInt8) (v : Nat) (hv : v = 98 - restL 0 (l ++ [48, 48])) : restL 0 (l ++ (two v).data.toList) = 1 := by
  rw [restL_app] at hv ⊢
  have hn := restL_lt l 0 (by omega)
  generalize restL 0 l = n at hv hn ⊢
  have e1 : restL n [48, 48] = (10 * ((10 * n) % 97)) % 97 := by
    simp only [restL]
    rw [if_pos (by decide), if_pos (by decide)]
    simp
  rw [e1] at hv
  have hb : v ≤ 98 := by omega
  have d1 : (UInt8.ofNat (48 + v / 10)).toNat = 48 + v / 10 := by
    rw [UInt8.toNat_ofNat']
    omega
  have d2 : (UInt8.ofNat (48 + v % 10)).toNat = 48 + v % 10 := by
    rw [UInt8.toNat_ofNat']
    omega
  show restL n [UInt8.ofNat (48 + v / 10), UInt8.ofNat (48 + v % 10)] = 1
  simp only [restL, d1, d2]
  rw [if_pos (by omega), if_pos (by omega)]
  omega

theorem plain_two (v : Nat) (h : v ≤ 98) : plainL (two v).data.toList = true := by
  have d1 : (UInt8.ofNat (48 + v / 10)).toNat = 48 + v / 10 := by
    rw [UInt8.toNat_ofNat']
    omega
  have d2 : (UInt8.ofNat (48 + v % 10)).toNat = 48 + v % 10 := by
    rw [UInt8.toNat_ofNat']
    omega
  show plainL [UInt8.ofNat (48 + v / 10), UInt8.ofNat (48 + v % 10)] = true
  simp only [plainL, List.all_cons, List.all_nil, okC, d1, d2]
  simp
  omega
end Go.Proofs.YtmloobkgnefgcaaDoor.Pure
