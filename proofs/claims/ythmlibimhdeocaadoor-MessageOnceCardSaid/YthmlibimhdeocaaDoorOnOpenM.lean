/- Open, OpenM: what the law MessageOnce asks of it. -/
import Derived.Test.YthmlibimhdeocaaDoorOnWWords
import Derived.Test.YthmlibimhdeocaaDoorOnMapSet
import Derived.SizedLaws
import Derived.ChangeSlices
import Derived.SliceStrings
import Derived.Deep.Slices
section
namespace Go.Proofs.YthmlibimhdeocaaDoor
open Go.RowKit Go.ChangeShapes Go.WideShapes Go.Proofs.YthmlibimhdeocaaDoorW.PrintWords
set_option linter.unusedVariables false
set_option linter.unusedSimpArgs false

theorem mem_weightsAll {H : Type} {P : Program} {e : TypeId} {n : Nat} : ∀ {l : List (DataW H)} {y : DataW H}, y ∈ l → n ∈ y.weights P e → n ∈ DataW.weightsAll P e l
  | d :: r, y, hy, hn => by
    simp only [DataW.weightsAll, List.mem_append]
    rcases List.mem_cons.1 hy with rfl | hy
    · exact Or.inl hn
    · exact Or.inr (mem_weightsAll hy hn)
  | [], y, hy, hn => absurd hy (by simp)
end Go.Proofs.YthmlibimhdeocaaDoor

end
section
namespace Go.Proofs.YthmlibimhdeocaaDoor
open Go.RowKit Go.ChangeShapes Go.WideShapes Go.Proofs.YthmlibimhdeocaaDoor.QD Go.Proofs.YthmlibimhdeocaaDoorW.PrintWords
set_option linter.unusedVariables false
set_option linter.unusedSimpArgs false
set_option maxRecDepth 100000

/-- What is known of a message that comes in. -/
def okM (m : S23) : Prop := m.f0.size ≤ 140737488351232 ∧ m.f6.size ≤ 140737488351232 ∧ (Lit.int .i64 m.f1).wf = true ∧ (Lit.int .i64 m.f2).wf = true ∧ (Lit.int .i64 m.f3).wf = true ∧ (Lit.int .i64 m.f4).wf = true ∧ (Lit.int .i64 m.f5).wf = true
def datM {H : Type} (m : S23) : DataW H := .agg [.lit (.string m.f0.data.toList), .lit (.int .i64 m.f1), .lit (.int .i64 m.f2), .lit (.int .i64 m.f3), .lit (.int .i64 m.f4), .lit (.int .i64 m.f5), .lit (.string m.f6.data.toList)]
section
variable {H : Type} {enc : TypeId × Value → H} {W : World} {base : Nat} {spare : Nat → Bool} {held : Bool}

theorem open_msg {fuel : Nat} {cs : List Value} {x : DataW H × List MemPlace} (h : DataW.trod enc Tryd.prog W base spare held fuel 23 cs = some x) :
    ∃ m, cs = encM m ∧ x.1 = datM m ∧ (Lit.int .i64 m.f1).wf = true ∧ (Lit.int .i64 m.f2).wf = true ∧ (Lit.int .i64 m.f3).wf = true ∧ (Lit.int .i64 m.f4).wf = true ∧ (Lit.int .i64 m.f5).wf = true := by
  obtain ⟨xs, n, -, rfl, hl, hlen, hf⟩ := DataW.trod_struct Tryd.underlying23 h
  have cT : Tryd.prog.cellsOf 23 = 7 := by kernel_rfl
  have cS : Tryd.prog.cellsOf 9 = 1 := by kernel_rfl
  have cI : Tryd.prog.cellsOf 3 = 1 := by kernel_rfl
  rw [cT] at hl
  match cs, hl with
  | [c0, c1, c2, c3, c4, c5, c6], _ =>
    match xs, hlen with
    | [y0, y1, y2, y3, y4, y5, y6], _ =>
      have h0 : DataW.trod enc Tryd.prog W base spare held n 9 ((([c0, c1, c2, c3, c4, c5, c6] : List Value).drop 0).take (Tryd.prog.cellsOf 9)) = some y0 := hf 0 _ rfl
      rw [cS] at h0
      have h1 : DataW.trod enc Tryd.prog W base spare held n 3 ((([c0, c1, c2, c3, c4, c5, c6] : List Value).drop 1).take (Tryd.prog.cellsOf 3)) = some y1 := hf 1 _ rfl
      rw [cI] at h1
      have h2 : DataW.trod enc Tryd.prog W base spare held n 3 ((([c0, c1, c2, c3, c4, c5, c6] : List Value).drop 2).take (Tryd.prog.cellsOf 3)) = some y2 := hf 2 _ rfl
      rw [cI] at h2
      have h3 : DataW.trod enc Tryd.prog W base spare held n 3 ((([c0, c1, c2, c3, c4, c5, c6] : List Value).drop 3).take (Tryd.prog.cellsOf 3)) = some y3 := hf 3 _ rfl
      rw [cI] at h3
      have h4 : DataW.trod enc Tryd.prog W base spare held n 3 ((([c0, c1, c2, c3, c4, c5, c6] : List Value).drop 4).take (Tryd.prog.cellsOf 3)) = some y4 := hf 4 _ rfl
      rw [cI] at h4
      have h5 : DataW.trod enc Tryd.prog W base spare held n 3 ((([c0, c1, c2, c3, c4, c5, c6] : List Value).drop 5).take (Tryd.prog.cellsOf 3)) = some y5 := hf 5 _ rfl
      rw [cI] at h5
      have h6 : DataW.trod enc Tryd.prog W base spare held n 9 ((([c0, c1, c2, c3, c4, c5, c6] : List Value).drop 6).take (Tryd.prog.cellsOf 9)) = some y6 := hf 6 _ rfl
      rw [cS] at h6
      replace h0 : DataW.trod enc Tryd.prog W base spare held n 9 [c0] = some y0 := h0
      replace h1 : DataW.trod enc Tryd.prog W base spare held n 3 [c1] = some y1 := h1
      replace h2 : DataW.trod enc Tryd.prog W base spare held n 3 [c2] = some y2 := h2
      replace h3 : DataW.trod enc Tryd.prog W base spare held n 3 [c3] = some y3 := h3
      replace h4 : DataW.trod enc Tryd.prog W base spare held n 3 [c4] = some y4 := h4
      replace h5 : DataW.trod enc Tryd.prog W base spare held n 3 [c5] = some y5 := h5
      replace h6 : DataW.trod enc Tryd.prog W base spare held n 9 [c6] = some y6 := h6
      obtain ⟨s0, e0, rfl, -⟩ := DataW.trod_string Tryd.underlying9 h0
      obtain ⟨n1, e1, rfl, w1⟩ := DataW.trod_int Tryd.underlying3 h1
      obtain ⟨n2, e2, rfl, w2⟩ := DataW.trod_int Tryd.underlying3 h2
      obtain ⟨n3, e3, rfl, w3⟩ := DataW.trod_int Tryd.underlying3 h3
      obtain ⟨n4, e4, rfl, w4⟩ := DataW.trod_int Tryd.underlying3 h4
      obtain ⟨n5, e5, rfl, w5⟩ := DataW.trod_int Tryd.underlying3 h5
      obtain ⟨s6, e6, rfl, -⟩ := DataW.trod_string Tryd.underlying9 h6
      simp only [List.cons.injEq, and_true] at e0 e1 e2 e3 e4 e5 e6
      subst e0 e1 e2 e3 e4 e5 e6
      exact ⟨⟨s0, n1, n2, n3, n4, n5, s6⟩, rfl, rfl, w1, w2, w3, w4, w5⟩
theorem weights_msg {n : Nat} (m : S23) (h : n = m.f0.size ∨ n = m.f6.size) : n ∈ (datM (H := H) m).weights Tryd.prog 23 := by
  unfold datM
  simp only [DataW.weights, Tryd.underlying23, List.map_cons, List.map_nil, DataW.weightsEach, List.mem_append, List.mem_singleton]
  rcases h with h | h
  · left; simpa using h
  · right; right; right; right; right; right; left; simpa using h
theorem row_msg {t : TypeId} {v : Value} {d : DataW H} {ps : List MemPlace} {ts : List TypeId} {ds : List (DataW H)} {j : Nat} {r : Reach} {b0 : Nat} (htt : t = 23)
    (hsz : (DataW.weightsEach Tryd.prog ts ds).all (· ≤ reachBytes) = true) (ht : ts[j]? = some t) (hd : ds[j]? = some d) (hval : Value.okWide Tryd.prog W r b0 t v)
    (h : DataW.Trod enc Tryd.prog W base spare held t v d ps) : ∃ m, v = .agg (encM m).toArray ∧ okM m := by
  subst htt
  obtain ⟨cs, rfl, -⟩ := okWide_struct Tryd.underlying23 hval
  obtain ⟨fuel, hf⟩ := h
  obtain ⟨m, hcs, hx, w1, w2, w3, w4, w5⟩ := open_msg hf
  have hx' : d = datM m := hx
  subst hx'
  have hcs' : cs.toList = encM m := hcs
  have key : ∀ n, (n = m.f0.size ∨ n = m.f6.size) → n ≤ 140737488351232 := fun n hn => by
    have := List.all_eq_true.1 hsz _ (DataW.weights_mem_each ht hd n (weights_msg m hn))
    have h2 : n ≤ reachBytes := by simpa using this
    exact h2
  exact ⟨m, by rw [← hcs'], key _ (.inl rfl), key _ (.inr rfl), w1, w2, w3, w4, w5⟩
theorem add_add (x : Addr) (a b : Nat) : (x.add a).add b = x.add (a + b) := by
  unfold Addr.add
  by_cases ha : a = 0
  · by_cases hb : b = 0 <;> simp [ha, hb]
  · by_cases hb : b = 0 <;> simp [ha, hb, Nat.add_assoc]
theorem cells_at {n : Nat} {a : Addr} {cs : List Value} (h : W.cells? base a n = some cs) : ∀ i u, cs[i]? = some u → W.cell? (a.add i) = some u := by
  obtain ⟨-, hl, hc⟩ := World.cells?_some h
  intro i u hu
  have hi : i < cs.length := (List.getElem?_eq_some_iff.1 hu).1
  rw [hc i (by omega)]
  exact hu
theorem row_msgs {t e : TypeId} {a : Option Addr} {len cap : Nat} {d : DataW H} {ps : List MemPlace} {ts : List TypeId} {ds : List (DataW H)} {j : Nat} (hee : e = 23)
    (hsz : (DataW.weightsEach Tryd.prog ts ds).all (· ≤ reachBytes) = true) (ht : ts[j]? = some t) (hd : ds[j]? = some d) (hu : Tryd.prog.underlying t = some (.slice e)) {B : Nat} (hB : Tryd.prog.bytesOf e = B)
    (h : DataW.Trod enc Tryd.prog W base (fun _ => true) held t (.slice a len cap) d ps) :
    ∃ l : List S23, len = l.length ∧ Kd.C k23 W a l.length l ∧ l.length ≤ cap ∧ l.length * B ≤ 140737488351232 ∧ ∀ m ∈ l, okM m := by
  subst hee
  obtain ⟨fuel, hf⟩ := h
  rcases Deep.open_slice hu hf with ⟨hcs, _⟩ | ⟨x, len', cap', mm, n, D, Pl, hcs, _, hl, hm, hmm, hx, hel⟩
  · simp [Value.cells] at hcs
    obtain ⟨rfl, rfl, rfl⟩ := hcs
    exact ⟨[], rfl, ⟨rfl, by simp, fun hn => absurd hn (by simp)⟩, by simp, by simp, fun s hs => absurd hs (by simp)⟩
  · simp [Value.cells] at hcs
    obtain ⟨rfl, rfl, rfl⟩ := hcs
    obtain ⟨hx, _⟩ := Prod.mk.inj hx
    subst hx
    simp only [if_true] at hmm
    subst hmm
    have z := sized_slice hsz ht hd hu
    rw [hB] at z
    simp only [List.length_map, List.length_range] at z
    have hex : ∀ i, i < len → ∃ m : S23, (∀ q u, (encM m)[q]? = some u → W.cell? (x.add (i * 7 + q)) = some u) ∧ okM m := fun i hi => by
      obtain ⟨cs', h1, h2⟩ := hel i (by omega)
      have cT : Tryd.prog.cellsOf 23 = 7 := by kernel_rfl
      rw [cT] at h1
      obtain ⟨m, rfl, hD, w1, w2, w3, w4, w5⟩ := open_msg h2
      have hD' : D i = datM m := hD
      have key : ∀ n, (n = m.f0.size ∨ n = m.f6.size) → n ≤ 140737488351232 := fun n hn => by
        have hm : n ∈ (DataW.slice ((List.range len).map D) ((List.range (mm - len)).map fun j => D (len + j))).weights Tryd.prog t := by
          simp only [DataW.weights, hu, List.mem_cons, List.mem_append]
          refine Or.inr (Or.inl (mem_weightsAll (y := D i) (List.mem_map.2 ⟨i, List.mem_range.2 hi, rfl⟩) ?_))
          rw [hD']
          exact weights_msg m hn
        have := List.all_eq_true.1 hsz _ (DataW.weights_mem_each ht hd n hm)
        have h2 : n ≤ reachBytes := by simpa using this
        exact h2
      exact ⟨m, fun q u hq => by have := cells_at h1 q u hq; rwa [add_add] at this, key _ (.inl rfl), key _ (.inr rfl), w1, w2, w3, w4, w5⟩
    have hlist : ∀ n, n ≤ len → ∃ l : List S23, l.length = n ∧ ∀ i m, l[i]? = some m → (∀ q u, (encM m)[q]? = some u → W.cell? (x.add (i * 7 + q)) = some u) ∧ okM m := by
      intro n
      induction n with
      | zero => exact fun _ => ⟨[], rfl, fun i m hi => by simp at hi⟩
      | succ n ih =>
        intro hn
        obtain ⟨l, h1, h2⟩ := ih (by omega)
        obtain ⟨m, h3⟩ := hex n (by omega)
        refine ⟨l ++ [m], by simp [h1], fun i m' hi => ?_⟩
        by_cases hil : i < l.length
        · rw [List.getElem?_append_left hil] at hi
          exact h2 i m' hi
        · rw [List.getElem?_append_right (by omega)] at hi
          have : i = n := by
            have := (List.getElem?_eq_some_iff.1 hi).1
            simp at this
            omega
          subst this
          rw [h1, Nat.sub_self] at hi
          obtain rfl : m = m' := by simpa using hi
          exact h3
    obtain ⟨l, h1, h2⟩ := hlist len (Nat.le_refl _)
    refine ⟨l, h1.symm, ⟨rfl, ?_, fun hn => ⟨x, rfl, fun i m hi => ⟨encM m, rfl, k23_mk W m, fun q u hq => (h2 i m hi).1 q u hq⟩⟩⟩, by omega, ?_, fun m hm => ?_⟩
    · have : maxLen ≤ 9223372036854775807 := by decide
      omega
    · rw [h1]
      exact Nat.le_trans (Nat.mul_le_mul_right _ (by omega)) z
    · obtain ⟨i, hi⟩ := List.getElem?_of_mem hm
      exact (h2 i m hi).2
end
end Go.Proofs.YthmlibimhdeocaaDoor

end
