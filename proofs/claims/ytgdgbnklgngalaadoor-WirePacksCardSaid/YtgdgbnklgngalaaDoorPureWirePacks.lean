/- WirePacks: the plain law. -/
import Derived.Test.YtgdgbnklgngalaaDoorWirC
namespace Go.Proofs.YtgdgbnklgngalaaDoor.Pure
open Go.RowKit Go.Proofs.YtgdgbnklgngalaaDoor Go.Proofs.YtgdgbnklgngalaaDoor.QD Go.Proofs.YtgdgbnklgngalaaDoorW.PrintWords
set_option linter.unusedVariables false
set_option linter.unusedSimpArgs false

theorem packs_in (l : List ByteArray) (hl : l.length ≤ 5000) (hs : ∀ s ∈ l, s.size ≤ 140737488351232) (h : l.length + sumL l ≤ 5000) : wire_Pack.f l = some (packS l) := by
  have := packL_sum l hs
  exact pack_eq l (by omega)

theorem WirePacks : ∀ (a0 : List ByteArray), a0.length * 16 ≤ 140737488351232 → (∀ x ∈ a0, x.size ≤ 140737488351232) → ∃ k, QD.corebanklaw07_WirePacks.f k a0 = some true := by
  intro l hl hs
  obtain ⟨K, hlive⟩ := live_ev
  have out : ∀ k, K ≤ k → corebanklaw07_WirePacks.j0 (k + 1) l true = some true := fun k hk => by
    have e : corebanklaw07_live.f k = _ := hlive k hk
    simp only [corebanklaw07_WirePacks.j0]
    rw [if_pos trivial, e]
    rfl
  by_cases c1 : (l.length : Int) > 5000
  · exact ⟨K + 1, by unfold corebanklaw07_WirePacks.f; rw [if_pos c1]; exact out K (Nat.le_refl _)⟩
  obtain ⟨K1, h1⟩ := size_ev l (by omega) hs
  obtain ⟨K2, h2⟩ := rpack_ev l (by omega) hs
  refine ⟨K + K1 + K2 + 1, ?_⟩
  have e1 : corebankref07_Size.f (K + K1 + K2 + 1) l = _ := h1 _ (by omega)
  have e2 : corebankref07_Pack.f (K + K1 + K2) l = _ := h2 _ (by omega)
  have e3 : corebanklaw07_live.f (K + K1 + K2) = _ := hlive _ (by omega)
  unfold corebanklaw07_WirePacks.f
  rw [if_neg c1, e1]
  simp only [Option.bind_some]
  by_cases c2 : ((l.length + sumL l : Nat) : Int) > 5000
  · rw [decide_eq_true c2]
    exact out (K + K1 + K2) (by omega)
  · rw [decide_eq_false c2]
    simp only [corebanklaw07_WirePacks.j0]
    rw [if_neg (by simp), packs_in l (by omega) hs (by omega), e2, e3]
    simp only [Option.bind_some, if_true]
end Go.Proofs.YtgdgbnklgngalaaDoor.Pure
