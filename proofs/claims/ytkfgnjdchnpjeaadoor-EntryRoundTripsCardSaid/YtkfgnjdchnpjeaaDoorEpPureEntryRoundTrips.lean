/- PureEntryRoundTrips: what the law EntryRoundTrips asks of it. -/
import Derived.Test.YtkfgnjdchnpjeaaDoorEpEntLawF
import Derived.Test.YtkfgnjdchnpjeaaDoorEpQDx20
namespace Go.Proofs.YtkfgnjdchnpjeaaDoor.Pure
open Go Go.RowKit Go.Proofs.YtkfgnjdchnpjeaaDoor Go.Proofs.YtkfgnjdchnpjeaaDoor.QD Go.Proofs.YtkfgnjdchnpjeaaDoorW.PrintWords
set_option linter.unusedVariables false
set_option linter.unusedSimpArgs false

theorem EntryRoundTrips : ∀ (a0 : S25) (a1 : ByteArray), okT25 140737488351232 a0 → (a1).size ≤ 140737488351232 → ∃ k, QD.corebanklaw19_EntryRoundTrips.f k a0.f0 a0.f1 a0.f2 a0.f3 a0.f4 a0.f5 a0.f6 a0.f7 a0.f8 a0.f9 a1 = some true := by
  intro e x he hx
  refine ⟨20000 + 1, ?_⟩
  have out : corebanklaw19_EntryRoundTrips.j0 (20000 + 1) x true e.f0 e.f1 e.f2 e.f3 e.f4 e.f5 e.f6 e.f7 e.f8 e.f9 = some true := by
    simp only [corebanklaw19_EntryRoundTrips.j0]
    rw [if_pos trivial, live_some]
    rfl
  unfold QD.corebanklaw19_EntryRoundTrips.f
  rw [great_ev e _ (by omega), Option.bind_some]
  by_cases hg : greatB e = true
  · rw [if_pos hg]
    exact out
  rw [if_neg hg]
  by_cases hz : (x.size : Int) > 5000
  · rw [decide_eq_true hz]
    exact out
  rw [decide_eq_false hz]
  have hf := great_fit he (by simpa using hg)
  have h8 := hf.2.2.2.2.2.2.2.2.1
  have hps : (entP e).size ≤ 1000000000 := by
    have := packS_size 90000000 (entTx e) (entTx_size (fit_X hf)) (by omega)
    have e9 : (entTx e).length = 9 := rfl
    rw [e9] at this
    unfold entP
    omega
  simp only [corebanklaw19_EntryRoundTrips.j0]
  rw [if_neg (by simp), enc_eq (fit_X hf), Option.bind_some, dec_eq _ hps, Option.bind_some, dec_enc hf]
  dsimp only
  rw [dec_eq x (by omega), Option.bind_some, if_pos rfl, rsame_ev _ _ _ _ _ _ _ _ _ _ (by omega) _ (by omega), Option.bind_some, if_pos rfl]
  by_cases h0 : (decE x).2.2.2.2.2.2.2.2.2.2 = 0
  · rw [if_pos h0]
    obtain ⟨e', h1, h2, h3⟩ := enc_dec (x := x) (by omega) h0
    rw [h1]
    dsimp only
    rw [enc_eq h2, Option.bind_some, h3, if_pos rfl, live_some]
    rfl
  · rw [if_neg h0, live_some]
    rfl
end Go.Proofs.YtkfgnjdchnpjeaaDoor.Pure

