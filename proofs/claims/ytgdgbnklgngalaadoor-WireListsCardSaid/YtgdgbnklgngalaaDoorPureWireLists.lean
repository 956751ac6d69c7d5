/- WireLists: the plain law. -/
import Derived.Test.YtgdgbnklgngalaaDoorWirD
namespace Go.Proofs.YtgdgbnklgngalaaDoor.Pure
open Go.RowKit Go.Proofs.YtgdgbnklgngalaaDoor Go.Proofs.YtgdgbnklgngalaaDoor.QD Go.Proofs.YtgdgbnklgngalaaDoorW.PrintWords
set_option linter.unusedVariables false
set_option linter.unusedSimpArgs false

theorem WireLists : ∀ (a0 : List Int) (a1 : ByteArray) (a2 : Int), a0.length * 8 ≤ 140737488351232 → (∀ x ∈ a0, (Lit.int .i64 x).wf = true) → a1.size ≤ 140737488351232 → (Lit.int .i64 a2).wf = true → ∃ k, QD.corebanklaw07_WireLists.f k a0 a1 a2 = some true := by
  intro xs x lim hl hw hx hlim
  have hr : ∀ x ∈ xs, i64R x := fun x h => wfi (hw x h)
  obtain ⟨K, hlive⟩ := live_ev
  have out : ∀ k, K ≤ k → corebanklaw07_WireLists.j0 (k + 1) xs x lim true = some true := fun k hk => by
    have e : corebanklaw07_live.f k = _ := hlive k hk
    simp only [corebanklaw07_WireLists.j0]
    rw [if_pos trivial, e]
    rfl
  by_cases c1 : (xs.length : Int) > 500
  · exact ⟨K + 1, by unfold corebanklaw07_WireLists.f; rw [if_pos c1]; exact out K (Nat.le_refl _)⟩
  by_cases c2 : (x.size : Int) > 5000
  · exact ⟨K + 1, by unfold corebanklaw07_WireLists.f; rw [if_neg c1, decide_eq_true c2]; exact out K (Nat.le_refl _)⟩
  have hn := takeInts_len x.data.toList lim
  have hz := size_list x
  obtain ⟨K1, h1⟩ := wtakes_ev x (by omega) lim
  obtain ⟨K2, h2⟩ := rtakes_ev x (by omega) lim
  obtain ⟨K3, h3⟩ := wints_ev xs (by omega) hr
  obtain ⟨K4, h4⟩ := rints_ev xs (by omega) hr
  obtain ⟨K5, h5⟩ := sameI_ev (takeIntsS x.data.toList lim).1 (by omega)
  refine ⟨K + K1 + K2 + K3 + K4 + K5 + 1, ?_⟩
  generalize hM : K + K1 + K2 + K3 + K4 + K5 = M
  have e0 : corebanklaw07_live.f M = _ := hlive _ (by omega)
  have e1 : wire_TakeInts.f M x lim = _ := h1 _ (by omega)
  have e2 : corebankref07_TakeInts.f M x lim = _ := h2 _ (by omega)
  have e3 : wire_Ints.f M xs = _ := h3 _ (by omega)
  have e4 : corebankref07_Ints.f M xs = _ := h4 _ (by omega)
  have e5 : corebankref07_SameInts.f M (takeIntsS x.data.toList lim).1 (takeIntsS x.data.toList lim).1 = _ := h5 _ (by omega)
  unfold corebanklaw07_WireLists.f
  rw [if_neg c1, decide_eq_false c2]
  simp only [corebanklaw07_WireLists.j0]
  rw [if_neg (by simp), e1, e2, e3, e4]
  simp only [Option.bind_some, if_true]
  rw [e5]
  simp only [Option.bind_some, if_true]
  rw [e0]
  rfl
end Go.Proofs.YtgdgbnklgngalaaDoor.Pure
