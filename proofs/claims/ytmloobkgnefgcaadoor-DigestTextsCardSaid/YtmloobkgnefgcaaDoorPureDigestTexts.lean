/- DigestTexts: the plain law. -/
import Derived.Test.YtmloobkgnefgcaaDoorDigD
import Derived.Test.YtmloobkgnefgcaaDoorQDx5
namespace Go.Proofs.YtmloobkgnefgcaaDoor.Pure
open Go.RowKit Go.Proofs.YtmloobkgnefgcaaDoor Go.Proofs.YtmloobkgnefgcaaDoor.QD Go.Proofs.YtmloobkgnefgcaaDoorW.PrintWords

def shiftL (n : Nat) : List UInt8 → Nat
  | [] => n
  | c :: r => if c.toNat ≤ 57 then shiftL ((10 * n) % 97) r else shiftL ((10 * ((10 * n) % 97)) % 97) r

theorem shiftL_eq : ∀ (l : List UInt8) (n : Nat), n < 97 → shiftL n l = (n * pw l) % 97
  | [], n, h => by simp [shiftL, pw]; omega
  | c :: r, n, h => by
    simp only [shiftL, pw]
    by_cases hc : c.toNat ≤ 57
    · rw [if_pos hc, if_pos hc, shiftL_eq r _ (Nat.mod_lt _ (by omega)), ← Nat.mul_assoc, Nat.mul_comm n 10]
      simp
    · rw [if_neg hc, if_neg hc, shiftL_eq r _ (Nat.mod_lt _ (by omega)), ← Nat.mul_assoc, Nat.mul_comm n 100]
      have e : (10 * ((10 * n) % 97)) % 97 = (100 * n) % 97 := by omega
      rw [e]
      simp

theorem letter_ev (c : UInt8) (h : okC c = true) : corebanklaw08_letter.f (c.toNat : Int) = some (decide (¬ c.toNat ≤ 57)) := by
  have oc : (48 ≤ c.toNat ∧ c.toNat ≤ 57) ∨ (65 ≤ c.toNat ∧ c.toNat ≤ 90) := by simpa [okC] using h
  unfold corebanklaw08_letter.f
  by_cases h1 : c.toNat ≤ 57
  · rw [if_neg (by omega)]
    simp [h1]
  · rw [if_pos (by omega)]
    have : (c.toNat : Int) ≤ 90 := by omega
    simp [h1, this]

theorem texts_l0 (t : ByteArray) (ht : t.size ≤ 24) (b cc : Nat) (hb : b < 97) (KL : Nat) (hl : ∀ k, KL ≤ k → corebanklaw08_live.f k = some true) :
    ∀ (d k i n : Nat), t.size - i = d → i ≤ t.size → n < 97 → KL + d + 2 ≤ k → plainL (t.data.toList.drop i) = true → cc = (shiftL n (t.data.toList.drop i) + b) % 97 →
      corebanklaw08_DigestTexts.l0 k t (n : Int) (b : Int) (cc : Int) (i : Int) = some true := by
  intro d
  induction d with
  | zero =>
    intro k i n hd hi hn hk hp hc
    obtain ⟨k, rfl⟩ : ∃ m, k = m + 1 := ⟨k - 1, by omega⟩
    obtain rfl : i = t.size := by omega
    rw [drop_end] at hc
    simp only [shiftL] at hc
    simp only [corebanklaw08_DigestTexts.l0]
    rw [if_neg (by omega), w64 (by omega) (by omega), tmodn (by omega), if_pos (by omega), hl k (by omega)]
    rfl
  | succ d ih =>
    intro k i n hd hi hn hk hp hc
    obtain ⟨k, rfl⟩ : ∃ m, k = m + 1 := ⟨k - 1, by omega⟩
    obtain ⟨c, hdr, hbt, hc2⟩ := bt_drop t i (by omega)
    rw [hdr] at hp hc
    have hpl : (okC c && plainL (t.data.toList.drop (i + 1))) = true := hp
    rw [Bool.and_eq_true] at hpl
    simp only [shiftL] at hc
    simp only [corebanklaw08_DigestTexts.l0]
    rw [if_pos (by omega), if_pos (by omega), hbt, letter_ev c hpl.1]
    simp only [Option.bind_some]
    rw [w64 (n := (i : Int) + 1) (by omega) (by omega), w64 (n := 10 * (n : Int)) (by omega) (by omega), tmodn (a := 10 * (n : Int)) (by omega), show ((i : Int) + 1) = ((i + 1 : Nat) : Int) by omega]
    have e1 : (10 * (n : Int)) % 97 = ((10 * n % 97 : Nat) : Int) := by omega
    rw [e1]
    by_cases h1 : c.toNat ≤ 57
    · rw [if_pos h1] at hc
      rw [decide_eq_false (by omega), if_neg (by simp)]
      exact ih k (i + 1) _ (by omega) (by omega) (Nat.mod_lt _ (by omega)) (by omega) hpl.2 hc
    · rw [if_neg h1] at hc
      rw [decide_eq_true h1, if_pos rfl, w64 (by omega) (by omega), tmodn (by omega)]
      have e2 : (10 * ((10 * n % 97 : Nat) : Int)) % 97 = ((10 * (10 * n % 97) % 97 : Nat) : Int) := by omega
      rw [e2]
      exact ih k (i + 1) _ (by omega) (by omega) (Nat.mod_lt _ (by omega)) (by omega) hpl.2 hc

theorem DigestTexts : ∀ (a0 : ByteArray) (a1 : ByteArray), a0.size ≤ 140737488351232 → a1.size ≤ 140737488351232 → ∃ k, QD.corebanklaw08_DigestTexts.f k a0 a1 = some true := by
  intro s t hs ht
  obtain ⟨K, hl⟩ := live_ev
  obtain ⟨K1, h1⟩ := plain_ev s (by omega)
  obtain ⟨K2, h2⟩ := plain_ev t (by omega)
  obtain ⟨K3, h3⟩ := mod97_ev s (by omega)
  obtain ⟨K4, h4⟩ := mod97_ev t (by omega)
  have hz : (s ++ t).size = s.size + t.size := ByteArray.size_append
  have yes : ∀ k, K ≤ k → corebanklaw08_DigestTexts.j0 (k + 1) s t true = some true := fun k hk => by
    have e : corebanklaw08_live.f k = _ := hl k hk
    simp only [corebanklaw08_DigestTexts.j0, e, Option.bind_some, if_true]
  by_cases c1 : (s.size : Int) < 1
  · exact ⟨K + 1, by unfold corebanklaw08_DigestTexts.f; rw [if_pos c1]; exact yes K (Nat.le_refl _)⟩
  by_cases c2 : (t.size : Int) < 1
  · exact ⟨K + 1, by unfold corebanklaw08_DigestTexts.f; rw [if_neg c1, if_pos c2]; exact yes K (Nat.le_refl _)⟩
  by_cases c3 : (s.size : Int) > 24
  · exact ⟨K + 1, by unfold corebanklaw08_DigestTexts.f; rw [if_neg c1, if_neg c2, if_pos c3]; exact yes K (Nat.le_refl _)⟩
  by_cases c4 : (t.size : Int) > 24
  · exact ⟨K + 1, by unfold corebanklaw08_DigestTexts.f; rw [if_neg c1, if_neg c2, if_neg c3, if_pos c4]; exact yes K (Nat.le_refl _)⟩
  obtain ⟨K5, h5⟩ := mod97_ev (s ++ t) (by omega)
  refine ⟨K + K1 + K2 + K3 + K4 + K5 + t.size + 6, ?_⟩
  generalize hM : K + K1 + K2 + K3 + K4 + K5 + t.size + 5 = M
  have e1 : corebankref08_Plain.f (M + 1) s = _ := h1 _ (by omega)
  have e2 : corebankref08_Plain.f (M + 1) t = _ := h2 _ (by omega)
  unfold corebanklaw08_DigestTexts.f
  rw [show K + K1 + K2 + K3 + K4 + K5 + t.size + 6 = M + 1 by omega, if_neg c1, if_neg c2, if_neg c3, if_neg c4, e1]
  simp only [Option.bind_some]
  by_cases p1 : plainL s.data.toList = true
  · rw [if_pos p1, e2]
    simp only [Option.bind_some]
    by_cases p2 : plainL t.data.toList = true
    · rw [p2]
      have m1 : mod97 s = (((restL 0 s.data.toList : Nat) : Int), 0) := by unfold mod97; rw [if_neg (by omega), if_pos p1]
      have m2 : mod97 t = (((restL 0 t.data.toList : Nat) : Int), 0) := by unfold mod97; rw [if_neg (by omega), if_pos p2]
      have p3 : plainL (s ++ t).data.toList = true := by rw [app_data, plain_app, p1, p2]; rfl
      have m3 : mod97 (s ++ t) = (((restL 0 (s.data.toList ++ t.data.toList) : Nat) : Int), 0) := by unfold mod97; rw [if_neg (by omega), if_pos p3, app_data]
      have e3 : digest_Mod97.f M s = _ := h3 _ (by omega)
      have e4 : digest_Mod97.f M t = _ := h4 _ (by omega)
      have e5 : digest_Mod97.f M (s ++ t) = _ := h5 _ (by omega)
      rw [m1] at e3
      rw [m2] at e4
      rw [m3] at e5
      simp only [corebanklaw08_DigestTexts.j0, Bool.not_true]
      rw [if_neg (by simp), e3]
      simp only [Option.bind_some]
      rw [e4]
      simp only [Option.bind_some]
      rw [if_pos (by omega), e5]
      simp only [Option.bind_some, if_true]
      obtain ⟨N, rfl⟩ : ∃ N, M = N + 1 := ⟨M - 1, by omega⟩
      simp only [corebanklaw08_DigestTexts.j1]
      rw [if_neg (by simp)]
      have hb := restL_lt t.data.toList 0 (by omega)
      have ha := restL_lt s.data.toList 0 (by omega)
      refine texts_l0 t (by omega) _ _ hb K (fun k hk => hl k hk) t.size N 0 _ (by omega) (by omega) ha (by omega) (by simpa using p2) ?_
      rw [List.drop_zero, shiftL_eq _ _ ha, restL_app, restL_eq _ _ ha, restL_eq t.data.toList 0 (by omega), Nat.zero_mul, Nat.zero_add, ← Nat.add_mod]
    · have p2' : plainL t.data.toList = false := by simpa using p2
      rw [p2']
      exact yes M (by omega)
  · rw [if_neg p1]
    exact yes M (by omega)
end Go.Proofs.YtmloobkgnefgcaaDoor.Pure
