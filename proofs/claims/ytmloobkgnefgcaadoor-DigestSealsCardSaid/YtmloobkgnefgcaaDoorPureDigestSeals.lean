/- DigestSeals: the plain law. -/
import Derived.Test.YtmloobkgnefgcaaDoorDigE
namespace Go.Proofs.YtmloobkgnefgcaaDoor.Pure
open Go.RowKit Go.Proofs.YtmloobkgnefgcaaDoor Go.Proofs.YtmloobkgnefgcaaDoor.QD Go.Proofs.YtmloobkgnefgcaaDoorW.PrintWords
set_option linter.unusedVariables false
set_option linter.unusedSimpArgs false

theorem nil_toList : (⟨#[]⟩ : ByteArray).toList = [] := ByteArray.toList_mk []

theorem seals_long (s : ByteArray) (a1 a2 : Int) (c0 : (s.size : Int) > 200) : ∃ k, QD.corebanklaw08_DigestSeals.f k s a1 a2 = some true := by
  obtain ⟨K, hl⟩ := live_ev
  refine ⟨K, ?_⟩
  have e : corebanklaw08_live.f K = _ := hl K (Nat.le_refl _)
  unfold corebanklaw08_DigestSeals.f
  rw [if_pos c0, e]
  rfl

theorem seals_limit (s : ByteArray) (a1 a2 : Int) (c0 : ¬ (s.size : Int) > 200) (hbad : s.size < 1 ∨ s.size > 46) : ∃ k, QD.corebanklaw08_DigestSeals.f k s a1 a2 = some true := by
  obtain ⟨K, hl⟩ := live_ev
  obtain ⟨K1, hK1⟩ := seal_ev s (by omega)
  refine ⟨K + K1, ?_⟩
  have e : corebanklaw08_live.f (K + K1) = _ := hl _ (Nat.le_add_right _ _)
  have e1 : digest_Seal.f (K + K1) s = _ := hK1 _ (Nat.le_add_left _ _)
  have es : sealS s = (⟨#[]⟩, 5) := by unfold sealS; rw [if_pos hbad]
  rw [es] at e1
  have n5 : ¬ ((5 : Int) = 0) := by omega
  unfold corebanklaw08_DigestSeals.f
  rw [if_neg c0, e1]
  simp only [Option.bind_some]
  rw [if_neg n5, if_pos nil_toList]
  rcases hbad with hb | hb
  · rw [if_pos (by omega), e]; rfl
  · rw [if_neg (by omega), if_pos (by omega), e]; rfl

theorem seals_plain (s : ByteArray) (a1 a2 : Int) (c0 : ¬ (s.size : Int) > 200) (hbad : ¬ (s.size < 1 ∨ s.size > 46)) (hp : ¬ plainL s.data.toList = true) : ∃ k, QD.corebanklaw08_DigestSeals.f k s a1 a2 = some true := by
  obtain ⟨K, hl⟩ := live_ev
  obtain ⟨K1, hK1⟩ := seal_ev s (by omega)
  obtain ⟨K2, hK2⟩ := plain_ev s (by omega)
  refine ⟨K + K1 + K2, ?_⟩
  have e : corebanklaw08_live.f (K + K1 + K2) = _ := hl _ (by omega)
  have e1 : digest_Seal.f (K + K1 + K2) s = _ := hK1 _ (by omega)
  have e2 : corebankref08_Plain.f (K + K1 + K2) s = _ := hK2 _ (by omega)
  have es : sealS s = (⟨#[]⟩, 2) := by unfold sealS; rw [if_neg hbad, if_neg hp]
  rw [es] at e1
  have n2 : ¬ ((2 : Int) = 0) := by omega
  unfold corebanklaw08_DigestSeals.f
  rw [if_neg c0, e1]
  simp only [Option.bind_some]
  rw [if_neg n2, if_pos nil_toList, if_neg (by omega), if_neg (by omega), e2]
  simp only [Option.bind_some]
  rw [if_neg hp, e]
  rfl

theorem seals_good (s t : ByteArray) (a1 a2 : Int) (c0 : ¬ (s.size : Int) > 200) (es : sealS s = (t, 0)) (h3 : 3 ≤ t.size) (h48 : t.size ≤ 48) (hts : t.size = s.size + 2) (htp : plainL t.data.toList = true) (htv : restL 0 t.data.toList = 1)
    (htx : (t.extract 0 s.size).toList = s.toList) (a10 : 0 ≤ a1) (a11 : a1 < 256) (a20 : 0 ≤ a2) (a21 : a2 < 256) : ∃ k, QD.corebanklaw08_DigestSeals.f k s a1 a2 = some true := by
  obtain ⟨K1, hK1⟩ := seal_ev s (by omega)
  obtain ⟨K2, hK2⟩ := sealed_ev t (by omega)
  obtain ⟨K3, hK3⟩ := j0_ev t h3 h48 htp htv a1 a2 a10 a11 a20 a21
  refine ⟨K1 + K2 + K3, ?_⟩
  have e1 : digest_Seal.f (K1 + K2 + K3) s = _ := hK1 _ (by omega)
  have e2 : digest_Sealed.f (K1 + K2 + K3) t = _ := hK2 _ (by omega)
  have e3 : corebanklaw08_DigestSeals.j0 (K1 + K2 + K3) a1 a2 t false = _ := hK3 _ (by omega)
  rw [es] at e1
  rw [sealedB_plain t h3 h48 htp, htv] at e2
  have w2 : wrap64 ((s.size : Int) + 2) = (t.size : Int) := by rw [w64 (by omega) (by omega)]; omega
  have g0 : 0 ≤ (s.size : Int) := by omega
  have g1 : (s.size : Int) ≤ (t.size : Int) := by omega
  have htx2 : ((t.extract 0 ((s.size : Int) : Int).toNat).toList != s.toList) = false := by rw [Int.toNat_natCast, htx, bne_self_eq_false]
  unfold corebanklaw08_DigestSeals.f
  generalize corebanklaw08_DigestSeals.j0 (K1 + K2 + K3) a1 a2 = J at e3 ⊢
  generalize corebanklaw08_live.f (K1 + K2 + K3) = L
  generalize corebankref08_Plain.f (K1 + K2 + K3) s = P
  generalize digest_Seal.f (K1 + K2 + K3) s = S1 at e1 ⊢
  generalize digest_Sealed.f (K1 + K2 + K3) = S2 at e2 ⊢
  generalize K1 + K2 + K3 = K at *
  subst e1
  rw [if_neg c0, Option.bind_some]
  refine (if_pos (rfl : (0 : Int) = 0)).trans ?_
  rw [e2, Option.bind_some]
  refine (if_pos (decide_eq_true rfl)).trans ?_
  refine (if_pos w2.symm).trans ?_
  refine (if_pos g0).trans ?_
  refine (if_pos g1).trans ?_
  rw [htx2]
  exact e3

theorem DigestSeals : ∀ (a0 : ByteArray) (a1 : Int) (a2 : Int), a0.size ≤ 140737488351232 → (Lit.int .u8 a1).wf = true → (Lit.int .u8 a2).wf = true → ∃ k, QD.corebanklaw08_DigestSeals.f k a0 a1 a2 = some true := by
  intro s a1 a2 hs h1 h2
  obtain ⟨a10, a11⟩ := wf8 h1
  obtain ⟨a20, a21⟩ := wf8 h2
  by_cases c0 : (s.size : Int) > 200
  · exact seals_long s a1 a2 c0
  by_cases hbad : s.size < 1 ∨ s.size > 46
  · exact seals_limit s a1 a2 c0 hbad
  by_cases hp : plainL s.data.toList = true
  case neg => exact seals_plain s a1 a2 c0 hbad hp
  have es : sealS s = (s ++ two (chk s), 0) := by unfold sealS; rw [if_neg hbad, if_pos hp]
  have hz : ∀ v, (two v).size = 2 := fun v => rfl
  have hts : (s ++ two (chk s)).size = s.size + 2 := by rw [ByteArray.size_append, hz]
  have htl : (s ++ two (chk s)).data.toList = s.data.toList ++ (two (chk s)).data.toList := app_data _ _
  have hcb := chk_bd s
  have hpt := plain_two _ hcb.2
  have hrt := restL_two s.data.toList (chk s) (by unfold chk; rfl)
  have htp : plainL (s ++ two (chk s)).data.toList = true := by rw [htl, plain_app, hp, hpt]; rfl
  have htv : restL 0 (s ++ two (chk s)).data.toList = 1 := by rw [htl]; exact hrt
  have htx : ((s ++ two (chk s)).extract 0 s.size).toList = s.toList := by
    rw [ByteArray.toList_eq, ByteArray.toList_eq, extract_list, htl, List.drop_zero, ← size_list s, List.take_left]
  exact seals_good s _ a1 a2 c0 es (by rw [hts]; omega) (by rw [hts]; omega) hts htp htv htx a10 a11 a20 a21
end Go.Proofs.YtmloobkgnefgcaaDoor.Pure
