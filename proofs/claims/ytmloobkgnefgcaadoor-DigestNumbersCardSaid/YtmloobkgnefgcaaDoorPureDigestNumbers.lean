/- DigestNumbers: the plain law. -/
import Derived.Test.YtmloobkgnefgcaaDoorDigC
namespace Go.Proofs.YtmloobkgnefgcaaDoor.Pure
open Go.RowKit Go.Proofs.YtmloobkgnefgcaaDoor Go.Proofs.YtmloobkgnefgcaaDoor.QD Go.Proofs.YtmloobkgnefgcaaDoorW.PrintWords
theorem DigestNumbers : ∀ (a0 : ByteArray), a0.size ≤ 140737488351232 → ∃ k, QD.corebanklaw08_DigestNumbers.f k a0 = some true := by
  intro x hx
  obtain ⟨K, hl⟩ := live_ev
  obtain ⟨K1, h1⟩ := seal_ev x (by omega)
  obtain ⟨K2, h2⟩ := rseal_ev x (by omega)
  obtain ⟨K3, h3⟩ := sealed_ev x (by omega)
  obtain ⟨K4, h4⟩ := rsealed_ev x (by omega)
  refine ⟨K + K1 + K2 + K3 + K4, ?_⟩
  have e : corebanklaw08_live.f (K + K1 + K2 + K3 + K4) = _ := hl _ (by omega)
  have e1 : digest_Seal.f (K + K1 + K2 + K3 + K4) x = _ := h1 _ (by omega)
  have e2 : corebankref08_Seal.f (K + K1 + K2 + K3 + K4) x = _ := h2 _ (by omega)
  have e3 : digest_Sealed.f (K + K1 + K2 + K3 + K4) x = _ := h3 _ (by omega)
  have e4 : corebankref08_Sealed.f (K + K1 + K2 + K3 + K4) x = _ := h4 _ (by omega)
  simp only [corebanklaw08_DigestNumbers.f, e, e1, e2, e3, e4, Option.bind_some, if_true, ite_self, beq_self_eq_true]
end Go.Proofs.YtmloobkgnefgcaaDoor.Pure
