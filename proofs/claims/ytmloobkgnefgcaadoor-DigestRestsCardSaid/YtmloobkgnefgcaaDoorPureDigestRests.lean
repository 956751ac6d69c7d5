/- DigestRests: the plain law. -/
import Derived.Test.YtmloobkgnefgcaaDoorDigC
namespace Go.Proofs.YtmloobkgnefgcaaDoor.Pure
open Go.RowKit Go.Proofs.YtmloobkgnefgcaaDoor Go.Proofs.YtmloobkgnefgcaaDoor.QD Go.Proofs.YtmloobkgnefgcaaDoorW.PrintWords
theorem DigestRests : ∀ (a0 : ByteArray), a0.size ≤ 140737488351232 → ∃ k, QD.corebanklaw08_DigestRests.f k a0 = some true := by
  intro x hx
  obtain ⟨K, hl⟩ := live_ev
  obtain ⟨K1, h1⟩ := mod97_ev x (by omega)
  obtain ⟨K2, h2⟩ := rmod97_ev x (by omega)
  refine ⟨K + K1 + K2, ?_⟩
  have e : corebanklaw08_live.f (K + K1 + K2) = _ := hl _ (by omega)
  have e1 : digest_Mod97.f (K + K1 + K2) x = _ := h1 _ (by omega)
  have e2 : corebankref08_Mod97.f (K + K1 + K2) x = _ := h2 _ (by omega)
  simp only [corebanklaw08_DigestRests.f, e, e1, e2, Option.bind_some, if_true, ite_self]
end Go.Proofs.YtmloobkgnefgcaaDoor.Pure
