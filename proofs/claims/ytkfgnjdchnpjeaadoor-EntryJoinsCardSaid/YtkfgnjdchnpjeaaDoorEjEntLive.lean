/- EntLive: what the law EntryJoins asks of it. -/
import Derived.Test.YtkfgnjdchnpjeaaDoorEjLivB
import Derived.KernelRfl
namespace Go.Proofs.YtkfgnjdchnpjeaaDoor
open Go.RowKit Go.Proofs.YtkfgnjdchnpjeaaDoor.QD Go.Proofs.YtkfgnjdchnpjeaaDoorW.PrintWords
set_option linter.unusedVariables false

set_option maxRecDepth 100000 in
theorem ev_live : QV.corebanklaw19_live.f 1000 = some true := by kernel_rfl
def corebanklaw19_live.f : Option Bool := some true
theorem corebanklaw19_live.calls (r : Bool) (w : World) (HTab_ : TabW w) (h : corebanklaw19_live.f = some r) : Calls Tryd.prog 11 #[] w fun e w' => e = .returned (.bool r) ∧ Below w.heap.size w w' := by
  obtain rfl := Option.some.inj h
  exact QV.corebanklaw19_live.calls 1000 w HTab_ ev_live
end Go.Proofs.YtkfgnjdchnpjeaaDoor

