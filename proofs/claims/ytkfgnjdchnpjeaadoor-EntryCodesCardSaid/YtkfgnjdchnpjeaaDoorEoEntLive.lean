/- EntLive: what the law EntryCodes asks of it. -/
import Derived.Test.YtkfgnjdchnpjeaaDoorEoLivH
namespace Go.Proofs.YtkfgnjdchnpjeaaDoor
open Go.RowKit Go.Proofs.YtkfgnjdchnpjeaaDoor.QD Go.Proofs.YtkfgnjdchnpjeaaDoorW.PrintWords
set_option linter.unusedVariables false

def corebanklaw19_live.f : Option Bool := some true
theorem corebanklaw19_live.calls (r : Bool) (w : World) (HTab_ : TabW w) (h : corebanklaw19_live.f = some r) : Calls Tryd.prog 11 #[] w fun e w' => e = .returned (.bool r) ∧ Below w.heap.size w w' := by
  obtain rfl := Option.some.inj h
  exact live_calls w HTab_
end Go.Proofs.YtkfgnjdchnpjeaaDoor

