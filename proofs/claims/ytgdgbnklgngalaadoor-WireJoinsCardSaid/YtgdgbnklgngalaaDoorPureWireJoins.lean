/- WireJoins: the plain law. -/
import Derived.Test.YtgdgbnklgngalaaDoorWirC
import Derived.Test.YtgdgbnklgngalaaDoorQDx6
namespace Go.Proofs.YtgdgbnklgngalaaDoor.Pure
open Go.RowKit Go.Proofs.YtgdgbnklgngalaaDoor Go.Proofs.YtgdgbnklgngalaaDoor.QD Go.Proofs.YtgdgbnklgngalaaDoorW.PrintWords
set_option linter.unusedVariables false
set_option linter.unusedSimpArgs false

theorem unpackJ (l : List ByteArray) (h : ∀ s ∈ l, s.size ≤ 16384) : unpackS (packL l) = (l, 0) := by
  have := unpk_pack l ((packL l).length + 1) [] (by omega) h
  exact this

theorem joins_tail (M : Nat) (l m : List ByteArray) (hl : l.length ≤ 5000) (hm : m.length ≤ 5000) (p1 : wire_Pack.f l = some (packS l)) (p2 : wire_Pack.f m = some (packS m)) (p3 : wire_Pack.f (l ++ m) = some (packS l ++ packS m))
    (hz : (packS l).size + (packS m).size ≤ 9223372036854775807) (u1 : wire_Unpack.f (packS l ++ packS m) = some (l ++ m, 0)) (e3 : corebankref07_SameTexts.f M (l ++ m) (l ++ m) = some true) (e4 : corebanklaw07_live.f M = some true) :
    corebanklaw07_WireJoins.j0 (M + 1) l m false = some true := by
  have g1 : ([] : List ByteArray).length + l.length < 8796093022208 := by rw [List.length_nil]; omega
  have g2 : (([] : List ByteArray) ++ l).length + m.length < 8796093022208 := by rw [List.nil_append]; omega
  have f0 : ¬ false = true := by simp
  rw [corebanklaw07_WireJoins.j0, if_neg f0, Option.bind_some, if_pos g1, Option.bind_some, if_pos g2, Option.bind_some]
  generalize wire_Pack.f = P at p1 p2 p3 ⊢
  generalize wire_Unpack.f = U at u1 ⊢
  generalize corebankref07_SameTexts.f M = S at e3 ⊢
  generalize corebanklaw07_live.f M = L at e4 ⊢
  generalize packS l = A at p1 p3 hz u1 ⊢
  generalize packS m = B at p2 p3 hz u1 ⊢
  rw [p1, Option.bind_some, p2, Option.bind_some, if_pos hz, u1, Option.bind_some, List.nil_append, p3, Option.bind_some, Option.bind_some, Option.bind_some, if_pos hz, if_pos rfl]
  refine (if_pos (rfl : (0 : Int) = 0)).trans ?_
  show (S (l ++ m) (l ++ m)).bind _ = _
  rw [e3, Option.bind_some, if_pos rfl, e4, Option.bind_some]

theorem WireJoins : ∀ (a0 : List ByteArray) (a1 : List ByteArray), a0.length * 16 ≤ 140737488351232 → (∀ x ∈ a0, x.size ≤ 140737488351232) → a1.length * 16 ≤ 140737488351232 → (∀ x ∈ a1, x.size ≤ 140737488351232) → ∃ k, QD.corebanklaw07_WireJoins.f k a0 a1 = some true := by
  intro l m hl hs hm ht
  obtain ⟨K, hlive⟩ := live_ev
  have out : ∀ k, K ≤ k → corebanklaw07_WireJoins.j0 (k + 1) l m true = some true := fun k hk => by
    have e : corebanklaw07_live.f k = _ := hlive k hk
    simp only [corebanklaw07_WireJoins.j0]
    rw [if_pos trivial, e]
    rfl
  by_cases c1 : (l.length : Int) > 5000
  · exact ⟨K + 1, by unfold corebanklaw07_WireJoins.f; rw [if_pos c1]; exact out K (Nat.le_refl _)⟩
  by_cases c2 : (m.length : Int) > 5000
  · exact ⟨K + 1, by unfold corebanklaw07_WireJoins.f; rw [if_neg c1, if_pos c2]; exact out K (Nat.le_refl _)⟩
  obtain ⟨K1, h1⟩ := size_ev l (by omega) hs
  obtain ⟨K2, h2⟩ := size_ev m (by omega) ht
  have bnd : ∀ (r : List ByteArray), (∀ s ∈ r, s.size ≤ 140737488351232) → sumL r ≤ 140737488351232 * r.length := by
    intro r
    induction r with
    | nil => intro _; simp [sumL]
    | cons s r ih =>
      intro h
      have := ih (fun t ht => h t (List.mem_cons_of_mem _ ht))
      have := h s List.mem_cons_self
      rw [sumL_cons, List.length_cons]
      omega
  have b1 := bnd l hs
  have b2 := bnd m ht
  have hw : wrap64 (((l.length + sumL l : Nat) : Int) + ((m.length + sumL m : Nat) : Int)) = (((l.length + sumL l) + (m.length + sumL m) : Nat) : Int) := by rw [w64 (by omega) (by omega)]; omega
  by_cases c3 : (((l.length + sumL l) + (m.length + sumL m) : Nat) : Int) > 5000
  · refine ⟨K + K1 + K2 + 1, ?_⟩
    have e1 : corebankref07_Size.f (K + K1 + K2 + 1) l = _ := h1 _ (by omega)
    have e2 : corebankref07_Size.f (K + K1 + K2 + 1) m = _ := h2 _ (by omega)
    unfold corebanklaw07_WireJoins.f
    rw [if_neg c1, if_neg c2, e1, Option.bind_some, e2, Option.bind_some]
    have hd : decide (wrap64 (((l.length + sumL l : Nat) : Int) + ((m.length + sumL m : Nat) : Int)) > 5000) = true := decide_eq_true (by rw [hw]; exact c3)
    rw [hd]
    exact out (K + K1 + K2) (by omega)
  have q1 := packL_sum l hs
  have q2 := packL_sum m ht
  have p1 : wire_Pack.f l = some (packS l) := pack_eq l (by omega)
  have p2 : wire_Pack.f m = some (packS m) := pack_eq m (by omega)
  have hlm : packL (l ++ m) = packL l ++ packL m := packL_append l m
  have hj : packS l ++ packS m = packS (l ++ m) := by
    apply list_eq
    rw [app_data]
    show packL l ++ packL m = packL (l ++ m)
    rw [hlm]
  have p3 : wire_Pack.f (l ++ m) = some (packS l ++ packS m) := by rw [hj]; exact pack_eq _ (by rw [hlm, List.length_append]; omega)
  have z1 : (packS l).size = (packL l).length := mk_size _
  have z2 : (packS m).size = (packL m).length := mk_size _
  have z3 : (packS l ++ packS m).size = (packS l).size + (packS m).size := ByteArray.size_append
  have small : ∀ s ∈ l ++ m, s.size ≤ 16384 := by
    intro s hsm
    obtain ⟨a, b, e⟩ := List.append_of_mem hsm
    have h5 : sumL (l ++ m) = sumL l + sumL m := by simp [sumL]
    have h6 : sumL (l ++ m) = sumL a + (s.size + sumL b) := by rw [e]; simp [sumL]
    omega
  have u1 : wire_Unpack.f (packS l ++ packS m) = some (l ++ m, 0) := by
    rw [unpack_eq _ (by omega), hj]
    exact congrArg some (unpackJ (l ++ m) small)
  obtain ⟨K3, h3⟩ := same_ev (l ++ m) (by rw [List.length_append]; omega)
  refine ⟨K + K1 + K2 + K3 + 1, ?_⟩
  have e1 : corebankref07_Size.f (K + K1 + K2 + K3 + 1) l = _ := h1 _ (by omega)
  have e2 : corebankref07_Size.f (K + K1 + K2 + K3 + 1) m = _ := h2 _ (by omega)
  unfold corebanklaw07_WireJoins.f
  rw [if_neg c1, if_neg c2, e1, Option.bind_some, e2, Option.bind_some]
  have hd : decide (wrap64 (((l.length + sumL l : Nat) : Int) + ((m.length + sumL m : Nat) : Int)) > 5000) = false := decide_eq_false (by rw [hw]; exact c3)
  rw [hd]
  generalize hM : K + K1 + K2 + K3 = M
  have e3 : corebankref07_SameTexts.f M (l ++ m) (l ++ m) = _ := h3 M (by omega)
  have e4 : corebanklaw07_live.f M = _ := hlive M (by omega)
  exact joins_tail M l m (by omega) (by omega) p1 p2 p3 (by omega) u1 e3 e4
end Go.Proofs.YtgdgbnklgngalaaDoor.Pure
