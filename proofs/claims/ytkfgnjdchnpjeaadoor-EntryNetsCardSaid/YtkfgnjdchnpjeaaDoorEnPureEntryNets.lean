/- PureEntryNets: what the law EntryNets asks of it. -/
import Derived.Test.YtkfgnjdchnpjeaaDoorEnEntLawC
import Derived.Test.YtkfgnjdchnpjeaaDoorEnQDx17
namespace Go.Proofs.YtkfgnjdchnpjeaaDoor.Pure
open Go Go.RowKit Go.Proofs.YtkfgnjdchnpjeaaDoor Go.Proofs.YtkfgnjdchnpjeaaDoor.QD Go.Proofs.YtkfgnjdchnpjeaaDoorW.PrintWords
set_option linter.unusedVariables false
set_option linter.unusedSimpArgs false

theorem live_some : corebanklaw19_live.f = some true := rfl
theorem netS_len (l : List S46) : (netS l).length ≤ l.length := by
  have h1 : (netS l).length ≤ (collS l).length := List.length_filter_le _ _
  have h2 := collS_len l
  omega
theorem EntryNets : ∀ (a0 : S25), okT25 140737488351232 a0 → ∃ k, QD.corebanklaw19_EntryNets.f k a0.f0 a0.f1 a0.f2 a0.f3 a0.f4 a0.f5 a0.f6 a0.f7 a0.f8 a0.f9 = some true := by
  intro e he
  refine ⟨20000, ?_⟩
  unfold QD.corebanklaw19_EntryNets.f
  rw [great_ev e _ (by omega), Option.bind_some]
  by_cases hg : greatB e = true
  · rw [if_pos hg, live_some]
    rfl
  · rw [if_neg hg]
    obtain ⟨-, -, -, -, -, -, h6, h7, h8, hL⟩ := great_fit he (by simpa using hg)
    have hs := sumsS_len e.f8
    have hn := netS_len e.f8
    rw [sums_eq _ (by omega), Option.bind_some, rsums_ev _ (by omega) (fun x hx => (hL x hx).2.1) _ (by omega), Option.bind_some, sameY_ev _ (by omega) _ (by omega), Option.bind_some, if_pos rfl, net_eq _ (by omega), Option.bind_some, rnet_ev _ (by omega) _ (by omega), Option.bind_some, sameL_ev _ (by omega) _ (by omega), Option.bind_some, if_pos rfl, live_some]
    rfl
end Go.Proofs.YtkfgnjdchnpjeaaDoor.Pure

