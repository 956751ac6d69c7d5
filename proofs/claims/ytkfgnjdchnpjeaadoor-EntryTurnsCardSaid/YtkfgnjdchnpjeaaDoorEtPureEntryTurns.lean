/- PureEntryTurns: what the law EntryTurns asks of it. -/
import Derived.Test.YtkfgnjdchnpjeaaDoorEtEntLawE
import Derived.Test.YtkfgnjdchnpjeaaDoorEtQDx18
namespace Go.Proofs.YtkfgnjdchnpjeaaDoor.Pure
open Go Go.RowKit Go.Proofs.YtkfgnjdchnpjeaaDoor Go.Proofs.YtkfgnjdchnpjeaaDoor.QD Go.Proofs.YtkfgnjdchnpjeaaDoorW.PrintWords
set_option linter.unusedVariables false
set_option linter.unusedSimpArgs false

theorem EntryTurns : ∀ (a0 : S25) (a1 : ByteArray) (a2 : Int), okT25 140737488351232 a0 → (a1).size ≤ 140737488351232 → (Lit.int .i64 a2).wf = true → ∃ k, QD.corebanklaw19_EntryTurns.f k a0.f0 a0.f1 a0.f2 a0.f3 a0.f4 a0.f5 a0.f6 a0.f7 a0.f8 a0.f9 a1 a2 = some true := by
  intro e s b he hs hb
  refine ⟨20000 + 1, ?_⟩
  have out : corebanklaw19_EntryTurns.j0 (20000 + 1) s b true e.f0 e.f1 e.f2 e.f3 e.f4 e.f5 e.f6 e.f7 e.f8 e.f9 = some true := by
    simp only [corebanklaw19_EntryTurns.j0]
    rw [if_pos trivial, live_some]
    rfl
  unfold QD.corebanklaw19_EntryTurns.f
  rw [great_ev e _ (by omega), Option.bind_some]
  by_cases hg : greatB e = true
  · rw [if_pos hg]
    exact out
  rw [if_neg hg]
  by_cases hz : (s.size : Int) > 1000
  · rw [decide_eq_true hz]
    exact out
  rw [decide_eq_false hz]
  have hf := great_fit he (by simpa using hg)
  have h8 := hf.2.2.2.2.2.2.2.2.1
  simp only [corebanklaw19_EntryTurns.j0]
  rw [if_neg (by simp), rev_eq e hf s (by omega) b, Option.bind_some, rrev_ev e hf s (by omega) b _ (by omega), Option.bind_some]
  obtain ⟨r1, r2, r3, r4, r5, r6, r7, r8, r9, r10, r11, hr⟩ : ∃ r1 r2 r3 r4 r5 r6 r7 r8 r9 r10 r11, revS e s b = (r1, r2, r3, r4, r5, r6, r7, r8, r9, r10, r11) := ⟨_, _, _, _, _, _, _, _, _, _, _, rfl⟩
  have hl := revS_len e h8 s b hr
  rw [hr]
  dsimp only
  rw [if_pos rfl, rsame_ev r1 r2 r3 r4 r5 r6 r7 r8 r9 r10 (by omega) _ (by omega), Option.bind_some, if_pos rfl, live_some]
  rfl
end Go.Proofs.YtkfgnjdchnpjeaaDoor.Pure

