/- WireUnpacks: the plain law. -/
import Derived.Test.YtgdgbnklgngalaaDoorWirC
namespace Go.Proofs.YtgdgbnklgngalaaDoor.Pure
open Go.RowKit Go.Proofs.YtgdgbnklgngalaaDoor Go.Proofs.YtgdgbnklgngalaaDoor.QD Go.Proofs.YtgdgbnklgngalaaDoorW.PrintWords
set_option linter.unusedVariables false
set_option linter.unusedSimpArgs false

theorem unpack_len (l : List UInt8) : (unpackS l).1.length ≤ l.length := by
  by_cases h : (unpackS l).2 = 0
  · exact (unpack_sizes h).1
  · have : ∀ (f : Nat) (l : List UInt8) (acc : List ByteArray), (unpkS f l acc).2 ≠ 0 → (unpkS f l acc).1 = [] := by
      intro f
      induction f with
      | zero => intro l acc _; rfl
      | succ f ih =>
        intro l acc h
        simp only [unpkS] at h ⊢
        by_cases h0 : l = []
        · rw [if_pos h0] at h
          exact absurd rfl h
        · rw [if_neg h0] at h ⊢
          cases e : lenL l with
          | none => rfl
          | some x =>
            obtain ⟨n, p⟩ := x
            rw [e] at h
            simp only at h ⊢
            by_cases hs : l.length < p + n
            · rw [if_pos hs]
            · rw [if_neg hs] at h ⊢
              exact ih _ _ h
    have e := this (l.length + 1) l [] h
    show (unpkS (l.length + 1) l []).1.length ≤ l.length
    rw [e]
    simp

theorem WireUnpacks : ∀ (a0 : ByteArray), a0.size ≤ 140737488351232 → ∃ k, QD.corebanklaw07_WireUnpacks.f k a0 = some true := by
  intro x hx
  have hz := size_list x
  obtain ⟨K, hl⟩ := live_ev
  by_cases hc : (x.size : Int) > 20000
  · refine ⟨K, ?_⟩
    have e : corebanklaw07_live.f K = _ := hl _ (Nat.le_refl _)
    unfold corebanklaw07_WireUnpacks.f
    rw [if_pos hc, e]
    rfl
  have hn := unpack_len x.data.toList
  obtain ⟨K1, h1⟩ := runpack_ev x (by omega)
  obtain ⟨K2, h2⟩ := same_ev (unpackS x.data.toList).1 (by omega)
  refine ⟨K + K1 + K2, ?_⟩
  have e : corebanklaw07_live.f (K + K1 + K2) = _ := hl _ (by omega)
  have e1 : corebankref07_Unpack.f (K + K1 + K2) x = _ := h1 _ (by omega)
  have e2 : corebankref07_SameTexts.f (K + K1 + K2) (unpackS x.data.toList).1 (unpackS x.data.toList).1 = _ := h2 _ (by omega)
  unfold corebanklaw07_WireUnpacks.f
  rw [if_neg hc, unpack_eq x (by omega), e1]
  simp only [Option.bind_some, if_true]
  rw [e2]
  simp only [Option.bind_some, if_true]
  rw [e]
  rfl
end Go.Proofs.YtgdgbnklgngalaaDoor.Pure
