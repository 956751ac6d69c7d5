/- WirCe: what the law EntryRoundTrips asks of it. -/
import Derived.Test.YtkfgnjdchnpjeaaDoorEpWirBe
import Derived.Test.YtkfgnjdchnpjeaaDoorEpQDx0
import Derived.Test.YtkfgnjdchnpjeaaDoorEpQDx14
namespace Go.Proofs.YtkfgnjdchnpjeaaDoor.Pure
open Go.RowKit Go.Proofs.YtkfgnjdchnpjeaaDoor Go.Proofs.YtkfgnjdchnpjeaaDoor.QD Go.Proofs.YtkfgnjdchnpjeaaDoorW.PrintWords
set_option linter.unusedVariables false
set_option linter.unusedSimpArgs false

theorem rdOf_drop {α : Type} (d : α) (l : List α) (i : Nat) (h : i < l.length) : ∃ s, l.drop i = s :: l.drop (i + 1) ∧ rdOf d l (i : Int) = s ∧ s ∈ l := by
  refine ⟨l[i], List.drop_eq_getElem_cons h, ?_, List.getElem_mem h⟩
  unfold rdOf
  simp [List.getD, h]
def packS (l : List ByteArray) : ByteArray := ⟨(packL l).toArray⟩
end Go.Proofs.YtkfgnjdchnpjeaaDoor.Pure

