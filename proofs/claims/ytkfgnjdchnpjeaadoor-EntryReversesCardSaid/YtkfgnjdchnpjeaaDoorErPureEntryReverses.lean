/- PureEntryReverses: what the law EntryReverses asks of it. -/
import Derived.Test.YtkfgnjdchnpjeaaDoorErEntLawE
import Derived.Test.YtkfgnjdchnpjeaaDoorErQDx21
namespace Go.Proofs.YtkfgnjdchnpjeaaDoor.Pure
open Go Go.RowKit Go.Proofs.YtkfgnjdchnpjeaaDoor Go.Proofs.YtkfgnjdchnpjeaaDoor.QD Go.Proofs.YtkfgnjdchnpjeaaDoorW.PrintWords
set_option linter.unusedVariables false
set_option linter.unusedSimpArgs false

theorem EntryReverses : ∀ (a0 : S25) (a1 : ByteArray) (a2 : Int), okT25 140737488351232 a0 → (a1).size ≤ 140737488351232 → (Lit.int .i64 a2).wf = true → ∃ k, QD.corebanklaw19_EntryReverses.f k a0.f0 a0.f1 a0.f2 a0.f3 a0.f4 a0.f5 a0.f6 a0.f7 a0.f8 a0.f9 a1 a2 = some true := by
  intro e s b he hs hb
  refine ⟨20000 + 1, ?_⟩
  have out : corebanklaw19_EntryReverses.j0 (20000 + 1) s b true e.f0 e.f1 e.f2 e.f3 e.f4 e.f5 e.f6 e.f7 e.f8 e.f9 = some true := by
    simp only [corebanklaw19_EntryReverses.j0]
    rw [if_pos trivial, live_some]
    rfl
  unfold QD.corebanklaw19_EntryReverses.f
  rw [great_ev e _ (by omega), Option.bind_some]
  by_cases hg : greatB e = true
  · rw [if_pos hg]
    exact out
  rw [if_neg hg]
  by_cases hz : (s.size : Int) > 1000
  · rw [if_pos hz]
    exact out
  rw [if_neg hz]
  have hf := great_fit he (by simpa using hg)
  obtain ⟨-, -, -, -, -, -, h6, h7, h8, hL⟩ := id hf
  rw [check_ev e (by omega) (by omega) (by omega) (fun x hx => (hL x hx).2.2) _ (by omega), Option.bind_some]
  by_cases hc : chkE e = 0
  case neg =>
    rw [show (chkE e != 0) = true from bne_iff_ne.2 hc]
    exact out
  rw [show (chkE e != 0) = false from bne_eq_false_iff_eq.2 hc]
  simp only [corebanklaw19_EntryReverses.j0]
  rw [if_neg (by simp), rev_eq e hf s (by omega) b, Option.bind_some]
  by_cases hv : chkE e = 0 ∧ keyB s = true ∧ dayB b = true
  case neg =>
    have hr : revS e s b = decZ 1 := by unfold revS; rw [if_neg hv]
    rw [hr]
    unfold decZ
    dsimp only
    rw [if_neg (by omega), if_pos rfl, if_pos (by simp), live_some]
    rfl
  have hr : revS e s b = (0, b, e.f2, 11, 0, 0, s, revT e.f6, negL e.f8, 0, 0) := by unfold revS; rw [if_pos hv]
  obtain ⟨hbd, hl12⟩ := chk_legs hc
  rw [hr]
  dsimp only
  have hcr : entry_Check.f 20000 0 b e.f2 11 0 0 s (revT e.f6) (negL e.f8) 0 = some 0 := by
    have h1 : (revT e.f6).size ≤ 1100 := by unfold revT; rw [ByteArray.size_append]; show 8 + e.f6.size ≤ 1100; omega
    have := check_ev ⟨0, b, e.f2, 11, 0, 0, s, revT e.f6, negL e.f8, 0⟩ (by dsimp only; omega) h1 (by dsimp only; rw [negL_len]; omega) (fun x hx => by
      obtain ⟨x0, hx0, rfl⟩ := negL_mem hx
      exact (hL x0 hx0).2.2) 20000 (by omega)
    rw [chk_rev hc hv.2.1 hv.2.2 0] at this
    exact this
  have hnl := negL_len e.f8
  rw [if_pos rfl, Option.bind_some, if_pos (by rw [List.length_nil]; omega), Option.bind_some, List.nil_append, if_pos (by omega), net_eq _ (by rw [List.length_append]; omega), Option.bind_some, net_cancel _ hbd, if_pos (by simp), hcr, Option.bind_some, if_pos rfl, if_pos rfl, if_pos rfl, if_pos rfl, live_some]
  rfl
end Go.Proofs.YtkfgnjdchnpjeaaDoor.Pure

