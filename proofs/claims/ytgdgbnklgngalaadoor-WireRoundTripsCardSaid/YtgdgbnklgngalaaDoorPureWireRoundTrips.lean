/- WireRoundTrips: the plain law. -/
import Derived.Test.YtgdgbnklgngalaaDoorWirD
import Derived.Test.YtgdgbnklgngalaaDoorQDx6
namespace Go.Proofs.YtgdgbnklgngalaaDoor.Pure
open Go.RowKit Go.Proofs.YtgdgbnklgngalaaDoor Go.Proofs.YtgdgbnklgngalaaDoor.QD Go.Proofs.YtgdgbnklgngalaaDoorW.PrintWords
set_option linter.unusedVariables false
set_option linter.unusedSimpArgs false

theorem pack_in (l : List ByteArray) (hl : l.length ≤ 5000) (hs : ∀ s ∈ l, s.size ≤ 140737488351232) (h : l.length + sumL l ≤ 5000) : wire_Pack.f l = some (packS l) ∧ (packL l).length ≤ 120000 ∧ ∀ s ∈ l, s.size ≤ 16384 := by
  have h1 := packL_sum l hs
  refine ⟨pack_eq l (by omega), by omega, fun s hm => ?_⟩
  obtain ⟨a, b, e⟩ := List.append_of_mem hm
  have : sumL l = sumL a + (s.size + sumL b) := by rw [e]; simp [sumL]
  omega

theorem unpackS_pack (l : List ByteArray) (h : ∀ s ∈ l, s.size ≤ 16384) : unpackS (packL l) = (l, 0) := by
  have := unpk_pack l ((packL l).length + 1) [] (by omega) h
  exact this
theorem packS_unpack (l : List UInt8) (h : (unpackS l).2 = 0) : packL (unpackS l).1 = l := by
  have hu : unpkS (l.length + 1) l [] = ((unpackS l).1, 0) := by rw [← h]; rfl
  simpa [packL] using pack_unpk _ _ _ _ hu

/-- The texts that are behind the first steps. -/
theorem trips_j1 (l : List ByteArray) (xs : List Int) (hl : l.length ≤ 5000) (hx : xs.length ≤ 500) : Ev (fun k => corebanklaw07_WireRoundTrips.j1 k l xs l 0 xs 0 false) true := by
  obtain ⟨K, hlive⟩ := live_ev
  obtain ⟨K1, h1⟩ := same_ev l (by omega)
  obtain ⟨K2, h2⟩ := sameI_ev xs (by omega)
  refine ⟨K + K1 + K2 + 1, fun k hk => ?_⟩
  obtain ⟨k, rfl⟩ : ∃ m, k = m + 1 := ⟨k - 1, by omega⟩
  have e0 : corebanklaw07_live.f k = _ := hlive k (by omega)
  have e1 : corebankref07_SameTexts.f k l l = _ := h1 k (by omega)
  have e2 : corebankref07_SameInts.f k xs xs = _ := h2 k (by omega)
  show corebanklaw07_WireRoundTrips.j1 (k + 1) l xs l 0 xs 0 false = _
  simp only [corebanklaw07_WireRoundTrips.j1]
  rw [if_neg (by simp), if_pos trivial, e1]
  simp only [Option.bind_some, if_true]
  rw [e2]
  simp only [Option.bind_some, if_true]
  rw [e0]
  rfl

theorem WireRoundTrips : ∀ (a0 : List ByteArray) (a1 : List Int) (a2 : ByteArray), a0.length * 16 ≤ 140737488351232 → (∀ x ∈ a0, x.size ≤ 140737488351232) → a1.length * 8 ≤ 140737488351232 → (∀ x ∈ a1, (Lit.int .i64 x).wf = true) → a2.size ≤ 140737488351232 → ∃ k, QD.corebanklaw07_WireRoundTrips.f k a0 a1 a2 = some true := by
  intro l xs x hl hs hxl hw hx
  have hr : ∀ x ∈ xs, i64R x := fun x h => wfi (hw x h)
  obtain ⟨K, hlive⟩ := live_ev
  have out : ∀ k, K ≤ k → corebanklaw07_WireRoundTrips.j0 (k + 1) l xs x true = some true := fun k hk => by
    have e : corebanklaw07_live.f k = _ := hlive k hk
    simp only [corebanklaw07_WireRoundTrips.j0]
    rw [if_pos trivial, e]
    rfl
  by_cases c1 : (l.length : Int) > 5000
  · exact ⟨K + 1, by unfold corebanklaw07_WireRoundTrips.f; rw [if_pos c1]; exact out K (Nat.le_refl _)⟩
  obtain ⟨K1, h1⟩ := size_ev l (by omega) hs
  by_cases c2 : ((l.length + sumL l : Nat) : Int) > 5000
  · refine ⟨K + K1 + 1, ?_⟩
    have e1 : corebankref07_Size.f (K + K1 + 1) l = _ := h1 _ (by omega)
    unfold corebanklaw07_WireRoundTrips.f
    rw [if_neg c1, e1]
    simp only [Option.bind_some]
    rw [if_pos c2]
    exact out (K + K1) (by omega)
  by_cases c3 : (xs.length : Int) > 500
  · refine ⟨K + K1 + 1, ?_⟩
    have e1 : corebankref07_Size.f (K + K1 + 1) l = _ := h1 _ (by omega)
    unfold corebanklaw07_WireRoundTrips.f
    rw [if_neg c1, e1]
    simp only [Option.bind_some]
    rw [if_neg c2, if_pos c3]
    exact out (K + K1) (by omega)
  by_cases c4 : (x.size : Int) > 5000
  · refine ⟨K + K1 + 1, ?_⟩
    have e1 : corebankref07_Size.f (K + K1 + 1) l = _ := h1 _ (by omega)
    unfold corebanklaw07_WireRoundTrips.f
    rw [if_neg c1, e1]
    simp only [Option.bind_some]
    rw [if_neg c2, if_neg c3, decide_eq_true c4]
    exact out (K + K1) (by omega)
  obtain ⟨p1, p2, p3⟩ := pack_in l (by omega) hs (by omega)
  have hz := size_list x
  have q1 := packL_sum (intsP xs) (fun s hs => Nat.le_trans (intsP_size xs hr s hs) (by omega))
  have q2 := sumL_P xs hr
  rw [intsP_len] at q1
  obtain ⟨K2, h2⟩ := wints_ev xs (by omega) hr
  obtain ⟨K3, h3⟩ := wtakes_ev (packS (intsP xs)) (by unfold packS; rw [mk_size]; omega) (xs.length : Int)
  obtain ⟨K4, h4⟩ := wtakes_ev x (by omega) (x.size : Int)
  obtain ⟨K6, h6⟩ := trips_j1 l xs (by omega) (by omega)
  have t1 : takeIntsS (packS (intsP xs)).data.toList (xs.length : Int) = (xs, 0) := takeInts_pack xs hr
  rw [t1] at h3
  have u1 : wire_Unpack.f (packS l) = some (l, 0) := by
    rw [unpack_eq _ (by unfold packS; rw [mk_size]; omega)]
    exact congrArg some (unpackS_pack l p3)
  have u2 : wire_Unpack.f x = some (unpackS x.data.toList) := unpack_eq x (by omega)
  -- what the second text's numbers read back as
  have fin : ∃ K5, ∀ M, K5 ≤ M → (if (takeIntsS x.data.toList (x.size : Int)).2 = 0 then ((wire_Ints.f M (takeIntsS x.data.toList (x.size : Int)).1).bind fun t236 => corebanklaw07_WireRoundTrips.j1 M l xs l 0 xs 0 (t236.toList != x.toList)) else corebanklaw07_WireRoundTrips.j1 M l xs l 0 xs 0 false) = some true := by
    by_cases hc : (takeIntsS x.data.toList (x.size : Int)).2 = 0
    · have ht : takeIntsS x.data.toList (x.size : Int) = ((takeIntsS x.data.toList (x.size : Int)).1, 0) := by rw [← hc]
      obtain ⟨v1, v2, v3⟩ := pack_takeInts ht
      obtain ⟨K5, h5⟩ := wints_ev (takeIntsS x.data.toList (x.size : Int)).1 (by omega) v3
      refine ⟨K5 + K6, fun M hM => ?_⟩
      have e5 : wire_Ints.f M (takeIntsS x.data.toList (x.size : Int)).1 = _ := h5 M (by omega)
      have e6 : corebanklaw07_WireRoundTrips.j1 M l xs l 0 xs 0 false = _ := h6 M (by omega)
      have e7 : ((packS (intsP (takeIntsS x.data.toList (x.size : Int)).1)).toList != x.toList) = false := by
        unfold packS
        rw [v1, mk_list, bne_self_eq_false]
      rw [if_pos hc, e5]
      simp only [Option.bind_some]
      rw [e7]
      exact e6
    · refine ⟨K6, fun M hM => ?_⟩
      have e6 : corebanklaw07_WireRoundTrips.j1 M l xs l 0 xs 0 false = _ := h6 M (by omega)
      rw [if_neg hc]
      exact e6
  obtain ⟨K5, h5⟩ := fin
  refine ⟨K + K1 + K2 + K3 + K4 + K5 + 1, ?_⟩
  have e1 : corebankref07_Size.f (K + K1 + K2 + K3 + K4 + K5 + 1) l = _ := h1 _ (by omega)
  unfold corebanklaw07_WireRoundTrips.f
  rw [if_neg c1, e1]
  simp only [Option.bind_some]
  rw [if_neg c2, if_neg c3, decide_eq_false c4]
  generalize hM : K + K1 + K2 + K3 + K4 + K5 = M
  have e2 : wire_Ints.f M xs = _ := h2 M (by omega)
  have e3 : wire_TakeInts.f M (packS (intsP xs)) (xs.length : Int) = _ := h3 M (by omega)
  have e4 : wire_TakeInts.f M x (x.size : Int) = _ := h4 M (by omega)
  have e5 := h5 M (by omega)
  simp only [corebanklaw07_WireRoundTrips.j0]
  rw [if_neg (by simp), p1]
  simp only [Option.bind_some]
  rw [u1]
  simp only [Option.bind_some]
  rw [e2]
  simp only [Option.bind_some]
  rw [e3]
  simp only [Option.bind_some]
  rw [u2]
  simp only [Option.bind_some]
  rw [e4]
  simp only [Option.bind_some]
  by_cases hu : (unpackS x.data.toList).2 = 0
  · have v1 := packS_unpack x.data.toList hu
    have v2 : wire_Pack.f (unpackS x.data.toList).1 = some x := by
      rw [pack_eq _ (by rw [v1]; omega), v1, mk_list]
    rw [if_pos hu, v2]
    simp only [Option.bind_some, if_true]
    exact e5
  · have hc : ¬ (takeIntsS x.data.toList (x.size : Int)).2 = 0 := by
      intro hc
      apply hu
      unfold takeIntsS at hc
      have e : (unpackS x.data.toList) = unpkS (x.data.toList.length + 1) x.data.toList [] := rfl
      simp only at hc
      rw [← e, if_neg hu] at hc
      exact hc
    rw [if_neg hu, if_neg hc]
    rw [if_neg hc] at e5
    exact e5
end Go.Proofs.YtgdgbnklgngalaaDoor.Pure
