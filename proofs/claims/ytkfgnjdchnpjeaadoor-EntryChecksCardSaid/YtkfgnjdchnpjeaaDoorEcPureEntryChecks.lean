/- PureEntryChecks: what the law EntryChecks asks of it. -/
import Derived.Test.YtkfgnjdchnpjeaaDoorEcEntLawC
import Derived.Test.YtkfgnjdchnpjeaaDoorEcQDx16
namespace Go.Proofs.YtkfgnjdchnpjeaaDoor.Pure
open Go Go.RowKit Go.Proofs.YtkfgnjdchnpjeaaDoor Go.Proofs.YtkfgnjdchnpjeaaDoor.QD Go.Proofs.YtkfgnjdchnpjeaaDoorW.PrintWords
set_option linter.unusedVariables false
set_option linter.unusedSimpArgs false

theorem live_some : corebanklaw19_live.f = some true := rfl
theorem EntryChecks : ∀ (a0 : S25), okT25 140737488351232 a0 → ∃ k, QD.corebanklaw19_EntryChecks.f k a0.f0 a0.f1 a0.f2 a0.f3 a0.f4 a0.f5 a0.f6 a0.f7 a0.f8 a0.f9 = some true := by
  intro e he
  refine ⟨20000, ?_⟩
  unfold QD.corebanklaw19_EntryChecks.f
  rw [great_ev e _ (by omega), Option.bind_some]
  by_cases hg : greatB e = true
  · rw [if_pos hg, live_some]
    rfl
  · rw [if_neg hg]
    have hf := great_fit he (by simpa using hg)
    obtain ⟨-, -, -, -, -, -, h6, h7, h8, hL⟩ := hf
    rw [check_ev e (by omega) (by omega) (by omega) (fun x hx => (hL x hx).2.2) _ (by omega), Option.bind_some, rcheck_ev e (great_fit he (by simpa using hg)) _ (by omega), Option.bind_some, if_pos rfl, live_some]
    rfl
end Go.Proofs.YtkfgnjdchnpjeaaDoor.Pure

