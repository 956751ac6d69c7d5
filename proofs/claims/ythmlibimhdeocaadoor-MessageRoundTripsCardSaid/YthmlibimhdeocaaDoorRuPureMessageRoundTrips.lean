/- PureMessageRoundTrips: what the law MessageRoundTrips asks of it. -/
import Derived.Test.YthmlibimhdeocaaDoorRuMsgLawA
import Derived.Test.YthmlibimhdeocaaDoorRuQDx12
namespace Go.Proofs.YthmlibimhdeocaaDoor.Pure
open Go.RowKit Go.Proofs.YthmlibimhdeocaaDoor Go.Proofs.YthmlibimhdeocaaDoor.QD Go.Proofs.YthmlibimhdeocaaDoorW.PrintWords
set_option linter.unusedVariables false
set_option linter.unusedSimpArgs false

theorem MessageRoundTrips : ∀ (a0 : S23) (a1 : ByteArray), okM a0 → a1.size ≤ 140737488351232 → ∃ k, QD.corebanklaw43_MessageRoundTrips.f k a0.f0 a0.f1 a0.f2 a0.f3 a0.f4 a0.f5 a0.f6 a1 = some true := by
  intro m x hm hx
  refine ⟨1, ?_⟩
  unfold corebanklaw43_MessageRoundTrips.f corebankref43_Great.f
  by_cases h0 : (m.f0.size : Int) > 1000
  · rw [if_pos h0, Option.bind_some, if_pos rfl]
    simp only [corebanklaw43_MessageRoundTrips.j0]
    rw [if_pos trivial]
  rw [if_neg h0, Option.bind_some]
  by_cases h6 : (m.f6.size : Int) > 1000
  · rw [decide_eq_true h6, if_pos rfl]
    simp only [corebanklaw43_MessageRoundTrips.j0]
    rw [if_pos trivial]
  rw [decide_eq_false h6, if_neg (by simp)]
  by_cases hs : (x.size : Int) > 5000
  · rw [decide_eq_true hs]
    simp only [corebanklaw43_MessageRoundTrips.j0]
    rw [if_pos trivial]
  rw [decide_eq_false hs]
  have hf := fit_ok hm (by omega) (by omega)
  have hlen : (encS m).size ≤ 1000000000 := by
    have := encT_len hf
    have hz : (encS m).size = (packL (encT m)).length := by rw [← size_list]; rfl
    omega
  simp only [corebanklaw43_MessageRoundTrips.j0]
  rw [if_neg (by simp), enc_eq hf]
  simp only [Option.bind_some]
  rw [dec_eq _ hlen]
  simp only [Option.bind_some]
  rw [dec_eq x (by omega), dec_enc hf]
  simp only [Option.bind_some, beq_self_eq_true, Bool.and_self, if_true]
  by_cases hc : (decS x).2.2.2.2.2.2.2 = 0
  · obtain ⟨y, hy, hyf, hyx⟩ := enc_dec (by omega) hc
    rw [if_pos hc, hy]
    dsimp only
    rw [enc_eq hyf, hyx]
    simp only [Option.bind_some, if_true]
    rfl
  · rw [if_neg hc]
    rfl
end Go.Proofs.YthmlibimhdeocaaDoor.Pure

