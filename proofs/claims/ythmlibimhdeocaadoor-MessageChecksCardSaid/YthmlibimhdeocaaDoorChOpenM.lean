/- OpenM: what the law MessageChecks asks of it. -/
import Derived.Test.YthmlibimhdeocaaDoorChWWords
import Derived.Test.YthmlibimhdeocaaDoorChMapSet
import Derived.SizedLaws
import Derived.ChangeSlices
import Derived.SliceStrings
import Derived.Deep.Slices
namespace Go.Proofs.YthmlibimhdeocaaDoor
open Go.RowKit Go.ChangeShapes Go.WideShapes Go.Proofs.YthmlibimhdeocaaDoor.QD Go.Proofs.YthmlibimhdeocaaDoorW.PrintWords
set_option linter.unusedVariables false
set_option linter.unusedSimpArgs false
set_option maxRecDepth 100000

/-- What is known of a message that comes in. -/
def okM (m : S23) : Prop := m.f0.size ≤ 140737488351232 ∧ m.f6.size ≤ 140737488351232 ∧ (Lit.int .i64 m.f1).wf = true ∧ (Lit.int .i64 m.f2).wf = true ∧ (Lit.int .i64 m.f3).wf = true ∧ (Lit.int .i64 m.f4).wf = true ∧ (Lit.int .i64 m.f5).wf = true
def datM {H : Type} (m : S23) : DataW H := .agg [.lit (.string m.f0.data.toList), .lit (.int .i64 m.f1), .lit (.int .i64 m.f2), .lit (.int .i64 m.f3), .lit (.int .i64 m.f4), .lit (.int .i64 m.f5), .lit (.string m.f6.data.toList)]
section
variable {H : Type} {enc : TypeId × Value → H} {W : World} {base : Nat} {spare : Nat → Bool} {held : Bool}

theorem open_msg {fuel : Nat} {cs : List Value} {x : DataW H × List MemPlace} (h : DataW.trod enc Tryd.prog W base spare held fuel 23 cs = some x) :
    ∃ m, cs = encM m ∧ x.1 = datM m ∧ (Lit.int .i64 m.f1).wf = true ∧ (Lit.int .i64 m.f2).wf = true ∧ (Lit.int .i64 m.f3).wf = true ∧ (Lit.int .i64 m.f4).wf = true ∧ (Lit.int .i64 m.f5).wf = true := by
  obtain ⟨xs, n, -, rfl, hl, hlen, hf⟩ := DataW.trod_struct Tryd.underlying23 h
  have cT : Tryd.prog.cellsOf 23 = 7 := by kernel_rfl
  have cS : Tryd.prog.cellsOf 9 = 1 := by kernel_rfl
  have cI : Tryd.prog.cellsOf 3 = 1 := by kernel_rfl
  rw [cT] at hl
  match cs, hl with
  | [c0, c1, c2, c3, c4, c5, c6], _ =>
    match xs, hlen with
    | [y0, y1, y2, y3, y4, y5, y6], _ =>
      have h0 : DataW.trod enc Tryd.prog W base spare held n 9 ((([c0, c1, c2, c3, c4, c5, c6] : List Value).drop 0).take (Tryd.prog.cellsOf 9)) = some y0 := hf 0 _ rfl
      rw [cS] at h0
      have h1 : DataW.trod enc Tryd.prog W base spare held n 3 ((([c0, c1, c2, c3, c4, c5, c6] : List Value).drop 1).take (Tryd.prog.cellsOf 3)) = some y1 := hf 1 _ rfl
      rw [cI] at h1
      have h2 : DataW.trod enc Tryd.prog W base spare held n 3 ((([c0, c1, c2, c3, c4, c5, c6] : List Value).drop 2).take (Tryd.prog.cellsOf 3)) = some y2 := hf 2 _ rfl
      rw [cI] at h2
      have h3 : DataW.trod enc Tryd.prog W base spare held n 3 ((([c0, c1, c2, c3, c4, c5, c6] : List Value).drop 3).take (Tryd.prog.cellsOf 3)) = some y3 := hf 3 _ rfl
      rw [cI] at h3
      have h4 : DataW.trod enc Tryd.prog W base spare held n 3 ((([c0, c1, c2, c3, c4, c5, c6] : List Value).drop 4).take (Tryd.prog.cellsOf 3)) = some y4 := hf 4 _ rfl
      rw [cI] at h4
      have h5 : DataW.trod enc Tryd.prog W base spare held n 3 ((([c0, c1, c2, c3, c4, c5, c6] : List Value).drop 5).take (Tryd.prog.cellsOf 3)) = some y5 := hf 5 _ rfl
      rw [cI] at h5
      have h6 : DataW.trod enc Tryd.prog W base spare held n 9 ((([c0, c1, c2, c3, c4, c5, c6] : List Value).drop 6).take (Tryd.prog.cellsOf 9)) = some y6 := hf 6 _ rfl
      rw [cS] at h6
      replace h0 : DataW.trod enc Tryd.prog W base spare held n 9 [c0] = some y0 := h0
      replace h1 : DataW.trod enc Tryd.prog W base spare held n 3 [c1] = some y1 := h1
      replace h2 : DataW.trod enc Tryd.prog W base spare held n 3 [c2] = some y2 := h2
      replace h3 : DataW.trod enc Tryd.prog W base spare held n 3 [c3] = some y3 := h3
      replace h4 : DataW.trod enc Tryd.prog W base spare held n 3 [c4] = some y4 := h4
      replace h5 : DataW.trod enc Tryd.prog W base spare held n 3 [c5] = some y5 := h5
      replace h6 : DataW.trod enc Tryd.prog W base spare held n 9 [c6] = some y6 := h6
      obtain ⟨s0, e0, rfl, -⟩ := DataW.trod_string Tryd.underlying9 h0
      obtain ⟨n1, e1, rfl, w1⟩ := DataW.trod_int Tryd.underlying3 h1
      obtain ⟨n2, e2, rfl, w2⟩ := DataW.trod_int Tryd.underlying3 h2
      obtain ⟨n3, e3, rfl, w3⟩ := DataW.trod_int Tryd.underlying3 h3
      obtain ⟨n4, e4, rfl, w4⟩ := DataW.trod_int Tryd.underlying3 h4
      obtain ⟨n5, e5, rfl, w5⟩ := DataW.trod_int Tryd.underlying3 h5
      obtain ⟨s6, e6, rfl, -⟩ := DataW.trod_string Tryd.underlying9 h6
      simp only [List.cons.injEq, and_true] at e0 e1 e2 e3 e4 e5 e6
      subst e0 e1 e2 e3 e4 e5 e6
      exact ⟨⟨s0, n1, n2, n3, n4, n5, s6⟩, rfl, rfl, w1, w2, w3, w4, w5⟩
theorem weights_msg {n : Nat} (m : S23) (h : n = m.f0.size ∨ n = m.f6.size) : n ∈ (datM (H := H) m).weights Tryd.prog 23 := by
  unfold datM
  simp only [DataW.weights, Tryd.underlying23, List.map_cons, List.map_nil, DataW.weightsEach, List.mem_append, List.mem_singleton]
  rcases h with h | h
  · left; simpa using h
  · right; right; right; right; right; right; left; simpa using h
theorem row_msg {t : TypeId} {v : Value} {d : DataW H} {ps : List MemPlace} {ts : List TypeId} {ds : List (DataW H)} {j : Nat} {r : Reach} {b0 : Nat} (htt : t = 23)
    (hsz : (DataW.weightsEach Tryd.prog ts ds).all (· ≤ reachBytes) = true) (ht : ts[j]? = some t) (hd : ds[j]? = some d) (hval : Value.okWide Tryd.prog W r b0 t v)
    (h : DataW.Trod enc Tryd.prog W base spare held t v d ps) : ∃ m, v = .agg (encM m).toArray ∧ okM m := by
  subst htt
  obtain ⟨cs, rfl, -⟩ := okWide_struct Tryd.underlying23 hval
  obtain ⟨fuel, hf⟩ := h
  obtain ⟨m, hcs, hx, w1, w2, w3, w4, w5⟩ := open_msg hf
  have hx' : d = datM m := hx
  subst hx'
  have hcs' : cs.toList = encM m := hcs
  have key : ∀ n, (n = m.f0.size ∨ n = m.f6.size) → n ≤ 140737488351232 := fun n hn => by
    have := List.all_eq_true.1 hsz _ (DataW.weights_mem_each ht hd n (weights_msg m hn))
    have h2 : n ≤ reachBytes := by simpa using this
    exact h2
  exact ⟨m, by rw [← hcs'], key _ (.inl rfl), key _ (.inr rfl), w1, w2, w3, w4, w5⟩
end
end Go.Proofs.YthmlibimhdeocaaDoor

