/- WireNumbers: the plain law. -/
import Derived.Test.YtgdgbnklgngalaaDoorWirC
namespace Go.Proofs.YtgdgbnklgngalaaDoor.Pure
open Go.RowKit Go.Proofs.YtgdgbnklgngalaaDoor Go.Proofs.YtgdgbnklgngalaaDoor.QD Go.Proofs.YtgdgbnklgngalaaDoorW.PrintWords
set_option linter.unusedVariables false
set_option linter.unusedSimpArgs false

theorem wfi64 {a : Int} (h : (Lit.int .i64 a).wf = true) : i64R a := by
  have e1 : IntKind.i64.min = -9223372036854775808 := rfl
  have e2 : IntKind.i64.max = 9223372036854775807 := rfl
  simp [Lit.wf, e1, e2] at h
  exact h

theorem WireNumbers : ∀ (a0 : Int) (a1 : ByteArray), (Lit.int .i64 a0).wf = true → a1.size ≤ 140737488351232 → ∃ k, QD.corebanklaw07_WireNumbers.f k a0 a1 = some true := by
  intro a x h0 hx
  have hr := wfi64 h0
  obtain ⟨K, hl⟩ := live_ev
  obtain ⟨K1, h1⟩ := int_ev a hr
  refine ⟨K + K1 + x.size + 6, ?_⟩
  have e : corebanklaw07_live.f (K + K1 + x.size + 6) = _ := hl _ (by omega)
  have e1 : corebankref07_Int.f (K + K1 + x.size + 6) a = _ := h1 _ (by omega)
  have e2 := rtake_ev x (by omega) (K + K1 + x.size + 6) (by omega)
  unfold corebanklaw07_WireNumbers.f
  by_cases hc : (x.size : Int) > 200
  · rw [if_pos hc, e]
    rfl
  · rw [if_neg hc, takeInt_eq x (by omega), e2, wint_eq a hr, e1, e]
    simp only [Option.bind_some, if_true]
end Go.Proofs.YtgdgbnklgngalaaDoor.Pure
