/- MsgLawA: what the law MessageOnce asks of it. -/
import Derived.Test.YthmlibimhdeocaaDoorOnText
import Derived.Test.YthmlibimhdeocaaDoorOnUnpack
import Derived.Test.YthmlibimhdeocaaDoorOnMsgLive
import Derived.Test.YthmlibimhdeocaaDoorOnOpenM
namespace Go.Proofs.YthmlibimhdeocaaDoor.Pure
open Go.RowKit Go.Proofs.YthmlibimhdeocaaDoor Go.Proofs.YthmlibimhdeocaaDoor.QD Go.Proofs.YthmlibimhdeocaaDoorW.PrintWords
set_option linter.unusedVariables false
set_option linter.unusedSimpArgs false

theorem wfi {a : Int} (h : (Lit.int .i64 a).wf = true) : i64R a := by
  have e1 : IntKind.i64.min = -9223372036854775808 := rfl
  have e2 : IntKind.i64.max = 9223372036854775807 := rfl
  simp [Lit.wf, e1, e2] at h
  exact h
/-- The numbers are such, the texts not too long. -/
def fitM (m : S23) : Prop := m.f0.size ≤ 5000 ∧ m.f6.size ≤ 5000 ∧ i64R m.f1 ∧ i64R m.f2 ∧ i64R m.f3 ∧ i64R m.f4 ∧ i64R m.f5
theorem fit_ok {m : S23} (h : okM m) (h0 : m.f0.size ≤ 1000) (h6 : m.f6.size ≤ 1000) : fitM m := by
  obtain ⟨-, -, w1, w2, w3, w4, w5⟩ := h
  exact ⟨by omega, by omega, wfi w1, wfi w2, wfi w3, wfi w4, wfi w5⟩
end Go.Proofs.YthmlibimhdeocaaDoor.Pure

