/- PureEntryCodes: what the law EntryCodes asks of it. -/
import Derived.Test.YtkfgnjdchnpjeaaDoorEoEntLawF
import Derived.Test.YtkfgnjdchnpjeaaDoorEoQDx19
namespace Go.Proofs.YtkfgnjdchnpjeaaDoor.Pure
open Go Go.RowKit Go.Proofs.YtkfgnjdchnpjeaaDoor Go.Proofs.YtkfgnjdchnpjeaaDoor.QD Go.Proofs.YtkfgnjdchnpjeaaDoorW.PrintWords
set_option linter.unusedVariables false
set_option linter.unusedSimpArgs false

theorem legsD_len : ∀ (us : List ByteArray) (acc : List S46), (legsD us acc).1.length ≤ acc.length + us.length
  | [], acc => by rw [legsD]; simp
  | s :: r, acc => by
    rw [legsD]
    split
    · have := legsD_len r (acc ++ [(legD s).1])
      simp only [List.length_append, List.length_cons, List.length_nil] at this ⊢
      omega
    · simp
theorem legsV_len (v : ByteArray) : (legsV v).1.length ≤ v.size := by
  unfold legsV
  by_cases hc : (unpackS v.data.toList).2 = 0
  · rw [if_pos hc]
    have h1 := legsD_len (unpackS v.data.toList).1 []
    have h2 := (unpack_sizes hc).1
    rw [size_list] at h2
    rw [List.length_nil] at h1
    omega
  · rw [if_neg hc]
    simp
theorem decE_len {x : ByteArray} {r1 r2 r3 r4 r5 r6 : Int} {r7 r8 : ByteArray} {r9 : List S46} {r10 r11 : Int} (h : decE x = (r1, r2, r3, r4, r5, r6, r7, r8, r9, r10, r11)) : r9.length ≤ x.size := by
  have hz : ∀ (y : Int), decZ y = (r1, r2, r3, r4, r5, r6, r7, r8, r9, r10, r11) → r9.length ≤ x.size := fun y hy => by
    unfold decZ at hy
    simp only [Prod.mk.injEq] at hy
    rw [← hy.2.2.2.2.2.2.2.2.1]
    simp
  unfold decE at h
  by_cases hc : (unpackS x.data.toList).2 = 0
  case neg => rw [if_neg hc] at h; exact hz _ h
  rw [if_pos hc] at h
  obtain ⟨-, hs⟩ := unpack_sizes hc
  rw [size_list] at hs
  generalize (unpackS x.data.toList).1 = l at hs h
  by_cases h9 : l.length = 9
  case neg => rw [decE9_ne h9] at h; exact hz _ h
  obtain ⟨a, b, c, d, e, f, s, t, v, rfl⟩ := nine h9
  have hv := hs v (by simp)
  unfold decE9 at h
  dsimp only at h
  cases hg : goS [a, b, c, d, e, f] [] with
  | inl y => rw [hg] at h; exact hz _ h
  | inr xs =>
    obtain ⟨x0, x1, x2, x3, x4, x5, rfl⟩ := six hg
    rw [hg] at h
    unfold decN at h
    dsimp only at h
    by_cases h0 : (legsV v).2 = 0
    · rw [if_pos h0] at h
      simp only [Prod.mk.injEq] at h
      rw [← h.2.2.2.2.2.2.2.2.1]
      exact Nat.le_trans (legsV_len v) hv
    · rw [if_neg h0] at h
      exact hz _ h
theorem EntryCodes : ∀ (a0 : S25) (a1 : S25) (a2 : ByteArray), okT25 140737488351232 a0 → okT25 140737488351232 a1 → (a2).size ≤ 140737488351232 → ∃ k, QD.corebanklaw19_EntryCodes.f k a0.f0 a0.f1 a0.f2 a0.f3 a0.f4 a0.f5 a0.f6 a0.f7 a0.f8 a0.f9 a1.f0 a1.f1 a1.f2 a1.f3 a1.f4 a1.f5 a1.f6 a1.f7 a1.f8 a1.f9 a2 = some true := by
  intro e o x he ho hx
  have out : ∀ k, corebanklaw19_EntryCodes.j0 (k + 1) x true e.f0 e.f1 e.f2 e.f3 e.f4 e.f5 e.f6 e.f7 e.f8 e.f9 o.f0 o.f1 o.f2 o.f3 o.f4 o.f5 o.f6 o.f7 o.f8 o.f9 = some true := fun k => by
    simp only [corebanklaw19_EntryCodes.j0]
    rw [if_pos trivial, live_some]
    rfl
  by_cases hg : greatB e = true
  · refine ⟨20000 + 1, ?_⟩
    unfold QD.corebanklaw19_EntryCodes.f
    rw [great_ev e _ (by omega), Option.bind_some, if_pos hg]
    exact out _
  by_cases hgo : greatB o = true
  · refine ⟨20000 + 1, ?_⟩
    unfold QD.corebanklaw19_EntryCodes.f
    rw [great_ev e _ (by omega), Option.bind_some, if_neg hg, great_ev o _ (by omega), Option.bind_some, if_pos hgo]
    exact out _
  by_cases hz : (x.size : Int) > 5000
  · refine ⟨20000 + 1, ?_⟩
    unfold QD.corebanklaw19_EntryCodes.f
    rw [great_ev e _ (by omega), Option.bind_some, if_neg hg, great_ev o _ (by omega), Option.bind_some, if_neg hgo, decide_eq_true hz]
    exact out _
  have hf := great_fit he (by simpa using hg)
  have h8 := hf.2.2.2.2.2.2.2.2.1
  obtain ⟨K1, hd⟩ := rdec_ev x (by omega)
  obtain ⟨K2, hc⟩ := renc_ev (fit_X hf)
  obtain ⟨v, hv⟩ := same_val e o (by omega)
  refine ⟨K1 + K2 + 20000 + 1, ?_⟩
  unfold QD.corebanklaw19_EntryCodes.f
  rw [great_ev e _ (by omega), Option.bind_some, if_neg hg, great_ev o _ (by omega), Option.bind_some, if_neg hgo, decide_eq_false hz]
  have g1 : corebankref19_Decode.f (K1 + K2 + 20000) x = _ := hd _ (by omega)
  have g2 : corebankref19_Encode.f (K1 + K2 + 20000) e.f0 e.f1 e.f2 e.f3 e.f4 e.f5 e.f6 e.f7 e.f8 e.f9 = _ := hc _ (by omega)
  have g3 := hv (K1 + K2 + 20000) (by omega)
  have g4 : entry_Same.f (K1 + K2 + 20000) e.f0 e.f1 e.f2 e.f3 e.f4 e.f5 e.f6 e.f7 e.f8 e.f9 e.f0 e.f1 e.f2 e.f3 e.f4 e.f5 e.f6 e.f7 e.f8 e.f9 = some true := by
    rw [same_eq]
    exact rsame_ev _ _ _ _ _ _ _ _ _ _ (by omega) _ (by omega)
  simp only [corebanklaw19_EntryCodes.j0]
  rw [if_neg (by simp), dec_eq x (by omega), Option.bind_some, g1, Option.bind_some]
  obtain ⟨r1, r2, r3, r4, r5, r6, r7, r8, r9, r10, r11, hr⟩ : ∃ r1 r2 r3 r4 r5 r6 r7 r8 r9 r10 r11, decE x = (r1, r2, r3, r4, r5, r6, r7, r8, r9, r10, r11) := ⟨_, _, _, _, _, _, _, _, _, _, _, rfl⟩
  have hl := decE_len hr
  rw [hr]
  dsimp only
  rw [enc_eq (fit_X hf), Option.bind_some, g2, Option.bind_some, if_pos rfl, if_pos rfl, rsame_ev r1 r2 r3 r4 r5 r6 r7 r8 r9 r10 (by omega) _ (by omega), Option.bind_some, if_pos rfl, same_eq, g3, Option.bind_some, Option.bind_some, if_pos (by simp), g4, Option.bind_some, if_pos rfl, live_some]
  rfl
end Go.Proofs.YtkfgnjdchnpjeaaDoor.Pure

