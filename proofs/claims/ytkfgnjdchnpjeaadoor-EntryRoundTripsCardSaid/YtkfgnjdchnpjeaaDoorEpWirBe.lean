/- WirBe: what the law EntryRoundTrips asks of it. -/
import Derived.Test.YtkfgnjdchnpjeaaDoorEpWirA
import Derived.Test.YtkfgnjdchnpjeaaDoorEpQDx13
import Derived.Test.YtkfgnjdchnpjeaaDoorEpQDx14
import Derived.Laws.BitsAllLaws
namespace Go.Proofs.YtkfgnjdchnpjeaaDoor.Pure
open Go.RowKit Go.Proofs.YtkfgnjdchnpjeaaDoor Go.Proofs.YtkfgnjdchnpjeaaDoor.QD Go.Proofs.YtkfgnjdchnpjeaaDoorW.PrintWords
set_option linter.unusedVariables false
set_option linter.unusedSimpArgs false

def itoaS (x : Int) : ByteArray := ⟨(Lib.itoa x).toArray⟩
end Go.Proofs.YtkfgnjdchnpjeaaDoor.Pure

