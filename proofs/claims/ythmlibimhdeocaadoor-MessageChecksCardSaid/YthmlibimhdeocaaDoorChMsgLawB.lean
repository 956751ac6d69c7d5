/- MsgLawB: what the law MessageChecks asks of it. -/
import Derived.Test.YthmlibimhdeocaaDoorChMsgLawA
import Derived.Test.YthmlibimhdeocaaDoorChQDx2
import Derived.Test.YthmlibimhdeocaaDoorChQDx0
namespace Go.Proofs.YthmlibimhdeocaaDoor.Pure
open Go.RowKit Go.Proofs.YthmlibimhdeocaaDoor Go.Proofs.YthmlibimhdeocaaDoor.QD Go.Proofs.YthmlibimhdeocaaDoorW.PrintWords
set_option linter.unusedVariables false
set_option linter.unusedSimpArgs false

def big (m : S23) : Bool := decide (1000 < m.f0.size) || decide (1000 < m.f6.size)
theorem great_eq (m : S23) : corebankref43_Great.f m.f0 m.f1 m.f2 m.f3 m.f4 m.f5 m.f6 = some (big m) := by
  unfold corebankref43_Great.f big
  by_cases h0 : 1000 < m.f0.size
  · rw [if_pos (by omega), decide_eq_true h0, Bool.true_or]
  · rw [if_neg (by omega), decide_eq_false h0, Bool.false_or]
    congr 1
    by_cases h6 : 1000 < m.f6.size
    · rw [decide_eq_true h6, decide_eq_true (by omega)]
    · rw [decide_eq_false h6, decide_eq_false (by omega)]
theorem big_fit {m : S23} (h : okM m) (hb : big m = false) : fitM m ∧ m.f0.size ≤ 1000 ∧ m.f6.size ≤ 1000 := by
  unfold big at hb
  simp only [Bool.or_eq_false_iff, decide_eq_false_iff_not] at hb
  exact ⟨fit_ok h (by omega) (by omega), by omega, by omega⟩
theorem live_some : corebanklaw43_live.f = some true := rfl
end Go.Proofs.YthmlibimhdeocaaDoor.Pure

