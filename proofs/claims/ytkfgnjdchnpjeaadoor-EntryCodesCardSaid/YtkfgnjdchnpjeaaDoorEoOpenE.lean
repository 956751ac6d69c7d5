/- Open, OpenG, OpenE: what the law EntryCodes asks of it. -/
import Derived.Test.YtkfgnjdchnpjeaaDoorEoWWords
import Derived.Test.YtkfgnjdchnpjeaaDoorEoQDx0
import Derived.SizedLaws
import Derived.ChangeSlices
import Derived.SliceStrings
import Derived.Deep.Slices
import Derived.KernelRfl
section
namespace Go.Proofs.YtkfgnjdchnpjeaaDoor
open Go.RowKit Go.ChangeShapes Go.WideShapes Go.Proofs.YtkfgnjdchnpjeaaDoorW.PrintWords
set_option linter.unusedVariables false
set_option linter.unusedSimpArgs false

theorem mem_weightsAll {H : Type} {P : Program} {e : TypeId} {n : Nat} : ∀ {l : List (DataW H)} {y : DataW H}, y ∈ l → n ∈ y.weights P e → n ∈ DataW.weightsAll P e l
  | d :: r, y, hy, hn => by
    simp only [DataW.weightsAll, List.mem_append]
    rcases List.mem_cons.1 hy with rfl | hy
    · exact Or.inl hn
    · exact Or.inr (mem_weightsAll hy hn)
  | [], y, hy, hn => absurd hy (by simp)
end Go.Proofs.YtkfgnjdchnpjeaaDoor

end
section
namespace Go.Proofs.YtkfgnjdchnpjeaaDoor
open Go.RowKit Go.ChangeShapes Go.WideShapes Go.Proofs.YtkfgnjdchnpjeaaDoorW.PrintWords
set_option linter.unusedVariables false
set_option linter.unusedSimpArgs false

/-- A value of the type t that comes in is of the kind d; ok lim: what is known of it if no part weighs more than lim. -/
def Opens {α : Type} (P : Program) (t : TypeId) (d : Kd α) (ok : Nat → α → Prop) : Prop :=
  ∀ {H : Type} (enc : TypeId × Value → H) (W : World) (base : Nat) (held : Bool) (fuel : Nat) (cs : List Value) (x : DataW H × List MemPlace), DataW.trod enc P W base (fun _ => true) held fuel t cs = some x →
    ∃ a : α, d.K W a cs ∧ ∀ lim, (∀ n ∈ x.1.weights P t, n ≤ lim) → ok lim a
theorem opens_int {P : Program} {t : TypeId} {k : IntKind} (hu : P.underlying t = some (.int k)) : Opens P t (Kd.int k) (fun _ n => (Lit.int k n).wf = true) := by
  intro H enc W base held fuel cs x h
  obtain ⟨n, rfl, -, hw⟩ := DataW.trod_int hu h
  exact ⟨n, rfl, fun _ _ => hw⟩
theorem opens_string {P : Program} {t : TypeId} (hu : P.underlying t = some .string) : Opens P t Kd.string (fun lim s => s.size ≤ lim) := by
  intro H enc W base held fuel cs x h
  obtain ⟨s, rfl, rfl, -⟩ := DataW.trod_string hu h
  refine ⟨s, rfl, fun lim hl => ?_⟩
  have := hl s.data.toList.length (by simp [DataW.weights])
  simpa using this
theorem add_add (x : Addr) (a b : Nat) : (x.add a).add b = x.add (a + b) := by
  unfold Addr.add
  by_cases ha : a = 0
  · by_cases hb : b = 0 <;> simp [ha, hb]
  · by_cases hb : b = 0 <;> simp [ha, hb, Nat.add_assoc]
theorem cells_at {W : World} {base n : Nat} {a : Addr} {cs : List Value} (h : W.cells? base a n = some cs) : ∀ i u, cs[i]? = some u → W.cell? (a.add i) = some u := by
  obtain ⟨-, hl, hc⟩ := World.cells?_some h
  intro i u hu
  have hi : i < cs.length := (List.getElem?_eq_some_iff.1 hu).1
  rw [hc i (by omega)]
  exact hu
theorem opens_slice {α : Type} {P : Program} {t e : TypeId} {d : Kd α} {ok : Nat → α → Prop} {B : Nat} (hu : P.underlying t = some (.slice e)) (hc : P.cellsOf e = d.sz) (hB : P.bytesOf e = B) (h : Opens P e d ok) :
    Opens P t (Kd.slice e d) (fun lim l => l.length * B ≤ lim ∧ ∀ a ∈ l, ok lim a) := by
  intro H enc W base held fuel cs x hf
  rcases Deep.open_slice hu hf with ⟨rfl, -⟩ | ⟨ad, len, cap, mm, n, D, Pl, rfl, -, hl, hm, hmm, rfl, hel⟩
  · exact ⟨[], ⟨none, 0, rfl, Nat.le_refl _, rfl, by simp, fun hn => absurd hn (by simp)⟩, fun lim _ => ⟨by simp, fun a ha => absurd ha (by simp)⟩⟩
  · simp only [if_true] at hmm
    subst hmm
    have hlist : ∀ n, n ≤ len → ∃ l : List α, l.length = n ∧ ∀ i a, l[i]? = some a → ∃ cs, (∀ q u, cs[q]? = some u → W.cell? (ad.add (i * d.sz + q)) = some u) ∧ d.K W a cs ∧ ∀ lim, (∀ n ∈ (D i).weights P e, n ≤ lim) → ok lim a := by
      intro n
      induction n with
      | zero => exact fun _ => ⟨[], rfl, fun i a hi => by simp at hi⟩
      | succ n ih =>
        intro hn
        obtain ⟨l, h1, h2⟩ := ih (by omega)
        obtain ⟨cs', h3, h4⟩ := hel n (by omega)
        rw [hc] at h3
        obtain ⟨a, hK, ho⟩ := h enc W base held _ cs' _ h4
        refine ⟨l ++ [a], by simp [h1], fun i a' hi => ?_⟩
        by_cases hil : i < l.length
        · rw [List.getElem?_append_left hil] at hi
          exact h2 i a' hi
        · rw [List.getElem?_append_right (by omega)] at hi
          have : i = n := by
            have := (List.getElem?_eq_some_iff.1 hi).1
            simp at this
            omega
          subst this
          rw [h1, Nat.sub_self] at hi
          obtain rfl : a = a' := by simpa using hi
          exact ⟨cs', fun q u hq => by have := cells_at h3 q u hq; rwa [add_add] at this, hK, ho⟩
    obtain ⟨l, h1, h2⟩ := hlist len (Nat.le_refl _)
    refine ⟨l, ⟨some ad, mm, by rw [h1], by omega, h1.symm ▸ rfl, ?_, fun hn => ⟨ad, rfl, fun i a hi => ?_⟩⟩, fun lim hw => ⟨?_, fun a ha => ?_⟩⟩
    · have : maxLen ≤ 9223372036854775807 := by decide
      omega
    · obtain ⟨cs', k1, k2, -⟩ := h2 i a hi
      exact ⟨cs', d.K_len k2, k2, k1⟩
    · have := hw ((((List.range len).map D).length + ((List.range (mm - len)).map fun j => D (len + j)).length) * P.bytesOf e) (by simp [DataW.weights, hu])
      rw [hB] at this
      simp only [List.length_map, List.length_range] at this
      rw [h1]
      exact Nat.le_trans (Nat.mul_le_mul_right _ (by omega)) this
    · obtain ⟨i, hi⟩ := List.getElem?_of_mem ha
      obtain ⟨cs', -, -, k3⟩ := h2 i a hi
      have hil : i < len := by have := (List.getElem?_eq_some_iff.1 hi).1; omega
      refine k3 lim (fun n hn => hw n ?_)
      simp only [DataW.weights, hu, List.mem_cons, List.mem_append]
      exact Or.inr (Or.inl (mem_weightsAll (y := D i) (List.mem_map.2 ⟨i, List.mem_range.2 hil, rfl⟩) hn))
/-- An argument of a law. -/
theorem open_arg {α : Type} {H : Type} {enc : TypeId × Value → H} {P : Program} {W : World} {base : Nat} {held : Bool} {t : TypeId} {d : Kd α} {ok : Nat → α → Prop} {v : Value} {dd : DataW H} {ps : List MemPlace} {ts : List TypeId} {ds : List (DataW H)} {j : Nat} (h : Opens P t d ok)
    (hsz : (DataW.weightsEach P ts ds).all (· ≤ reachBytes) = true) (ht : ts[j]? = some t) (hd : ds[j]? = some dd) (hT : DataW.Trod enc P W base (fun _ => true) held t v dd ps) :
    ∃ a : α, d.K W a v.cells.toList ∧ ok 140737488351232 a := by
  obtain ⟨fuel, hf⟩ := hT
  obtain ⟨a, hK, ho⟩ := h enc W base held _ _ _ hf
  refine ⟨a, hK, ho _ (fun n hn => ?_)⟩
  have := List.all_eq_true.1 hsz _ (DataW.weights_mem_each ht hd n hn)
  have h2 : n ≤ reachBytes := by simpa using this
  exact h2
end Go.Proofs.YtkfgnjdchnpjeaaDoor

end
section
namespace Go.Proofs.YtkfgnjdchnpjeaaDoor
open Go.RowKit Go.ChangeShapes Go.WideShapes Go.Proofs.YtkfgnjdchnpjeaaDoor.QD Go.Proofs.YtkfgnjdchnpjeaaDoorW.PrintWords
set_option linter.unusedVariables false
set_option linter.unusedSimpArgs false
set_option maxRecDepth 100000

/-- What is known of a value of the type corebank/api.Leg. -/
def okT46 (lim : Nat) (x : S46) : Prop := (Lit.int .i64 x.f0).wf = true ∧ (Lit.int .i64 x.f1).wf = true ∧ (x.f2).size ≤ lim
theorem opens_T46 : Opens Tryd.prog 46 k46 okT46 := by
  intro H enc W base held fuel cs x h
  obtain ⟨xs, n, -, rfl, hl, hlen, hf⟩ := DataW.trod_struct Tryd.underlying46 h
  have cT : Tryd.prog.cellsOf 46 = 3 := by kernel_rfl
  rw [cT] at hl
  match cs, hl with
  | [c0, c1, c2], _ =>
    match xs, hlen with
    | [y0, y1, y2], _ =>
      have h0 := hf 0 _ rfl
      rw [show Tryd.prog.cellsOf _ = 1 from by kernel_rfl] at h0
      replace h0 : DataW.trod enc Tryd.prog W base (fun _ => true) held n 3 [c0] = some y0 := h0
      obtain ⟨a0, k0_, o0⟩ := (opens_int Tryd.underlying3) enc W base held _ _ _ h0
      have h1 := hf 1 _ rfl
      rw [show Tryd.prog.cellsOf _ = 1 from by kernel_rfl] at h1
      replace h1 : DataW.trod enc Tryd.prog W base (fun _ => true) held n 3 [c1] = some y1 := h1
      obtain ⟨a1, k1_, o1⟩ := (opens_int Tryd.underlying3) enc W base held _ _ _ h1
      have h2 := hf 2 _ rfl
      rw [show Tryd.prog.cellsOf _ = 1 from by kernel_rfl] at h2
      replace h2 : DataW.trod enc Tryd.prog W base (fun _ => true) held n 9 [c2] = some y2 := h2
      obtain ⟨a2, k2_, o2⟩ := (opens_string Tryd.underlying9) enc W base held _ _ _ h2
      exact ⟨⟨a0, a1, a2⟩, ⟨_, _, rfl, k0_, ⟨_, _, rfl, k1_, k2_⟩⟩, fun lim hw => ⟨o0 lim (fun q hq => hw q (by simp only [DataW.weights, Tryd.underlying46]; exact DataW.weights_mem_each (j := 0) rfl rfl q hq)), o1 lim (fun q hq => hw q (by simp only [DataW.weights, Tryd.underlying46]; exact DataW.weights_mem_each (j := 1) rfl rfl q hq)), o2 lim (fun q hq => hw q (by simp only [DataW.weights, Tryd.underlying46]; exact DataW.weights_mem_each (j := 2) rfl rfl q hq))⟩⟩
/-- What is known of a value of the type corebank/api.Entry. -/
def okT25 (lim : Nat) (x : S25) : Prop := (Lit.int .i64 x.f0).wf = true ∧ (Lit.int .i64 x.f1).wf = true ∧ (Lit.int .i64 x.f2).wf = true ∧ (Lit.int .i64 x.f3).wf = true ∧ (Lit.int .i64 x.f4).wf = true ∧ (Lit.int .i64 x.f5).wf = true ∧ (x.f6).size ≤ lim ∧ (x.f7).size ≤ lim ∧ ((x.f8).length * 32 ≤ lim ∧ ∀ x_ ∈ x.f8, okT46 lim (x_)) ∧ (Lit.int .u64 x.f9).wf = true
theorem opens_T25 : Opens Tryd.prog 25 k25 okT25 := by
  intro H enc W base held fuel cs x h
  obtain ⟨xs, n, -, rfl, hl, hlen, hf⟩ := DataW.trod_struct Tryd.underlying25 h
  have cT : Tryd.prog.cellsOf 25 = 10 := by kernel_rfl
  rw [cT] at hl
  match cs, hl with
  | [c0, c1, c2, c3, c4, c5, c6, c7, c8, c9], _ =>
    match xs, hlen with
    | [y0, y1, y2, y3, y4, y5, y6, y7, y8, y9], _ =>
      have h0 := hf 0 _ rfl
      rw [show Tryd.prog.cellsOf _ = 1 from by kernel_rfl] at h0
      replace h0 : DataW.trod enc Tryd.prog W base (fun _ => true) held n 3 [c0] = some y0 := h0
      obtain ⟨a0, k0_, o0⟩ := (opens_int Tryd.underlying3) enc W base held _ _ _ h0
      have h1 := hf 1 _ rfl
      rw [show Tryd.prog.cellsOf _ = 1 from by kernel_rfl] at h1
      replace h1 : DataW.trod enc Tryd.prog W base (fun _ => true) held n 3 [c1] = some y1 := h1
      obtain ⟨a1, k1_, o1⟩ := (opens_int Tryd.underlying3) enc W base held _ _ _ h1
      have h2 := hf 2 _ rfl
      rw [show Tryd.prog.cellsOf _ = 1 from by kernel_rfl] at h2
      replace h2 : DataW.trod enc Tryd.prog W base (fun _ => true) held n 3 [c2] = some y2 := h2
      obtain ⟨a2, k2_, o2⟩ := (opens_int Tryd.underlying3) enc W base held _ _ _ h2
      have h3 := hf 3 _ rfl
      rw [show Tryd.prog.cellsOf _ = 1 from by kernel_rfl] at h3
      replace h3 : DataW.trod enc Tryd.prog W base (fun _ => true) held n 3 [c3] = some y3 := h3
      obtain ⟨a3, k3_, o3⟩ := (opens_int Tryd.underlying3) enc W base held _ _ _ h3
      have h4 := hf 4 _ rfl
      rw [show Tryd.prog.cellsOf _ = 1 from by kernel_rfl] at h4
      replace h4 : DataW.trod enc Tryd.prog W base (fun _ => true) held n 3 [c4] = some y4 := h4
      obtain ⟨a4, k4_, o4⟩ := (opens_int Tryd.underlying3) enc W base held _ _ _ h4
      have h5 := hf 5 _ rfl
      rw [show Tryd.prog.cellsOf _ = 1 from by kernel_rfl] at h5
      replace h5 : DataW.trod enc Tryd.prog W base (fun _ => true) held n 3 [c5] = some y5 := h5
      obtain ⟨a5, k5_, o5⟩ := (opens_int Tryd.underlying3) enc W base held _ _ _ h5
      have h6 := hf 6 _ rfl
      rw [show Tryd.prog.cellsOf _ = 1 from by kernel_rfl] at h6
      replace h6 : DataW.trod enc Tryd.prog W base (fun _ => true) held n 9 [c6] = some y6 := h6
      obtain ⟨a6, k6_, o6⟩ := (opens_string Tryd.underlying9) enc W base held _ _ _ h6
      have h7 := hf 7 _ rfl
      rw [show Tryd.prog.cellsOf _ = 1 from by kernel_rfl] at h7
      replace h7 : DataW.trod enc Tryd.prog W base (fun _ => true) held n 9 [c7] = some y7 := h7
      obtain ⟨a7, k7_, o7⟩ := (opens_string Tryd.underlying9) enc W base held _ _ _ h7
      have h8 := hf 8 _ rfl
      rw [show Tryd.prog.cellsOf _ = 1 from by kernel_rfl] at h8
      replace h8 : DataW.trod enc Tryd.prog W base (fun _ => true) held n 22 [c8] = some y8 := h8
      obtain ⟨a8, k8_, o8⟩ := (opens_slice Tryd.underlying22 (by kernel_rfl) (B := 32) (by kernel_rfl) opens_T46) enc W base held _ _ _ h8
      have h9 := hf 9 _ rfl
      rw [show Tryd.prog.cellsOf _ = 1 from by kernel_rfl] at h9
      replace h9 : DataW.trod enc Tryd.prog W base (fun _ => true) held n 23 [c9] = some y9 := h9
      obtain ⟨a9, k9_, o9⟩ := (opens_int Tryd.underlying23) enc W base held _ _ _ h9
      exact ⟨⟨a0, a1, a2, a3, a4, a5, a6, a7, a8, a9⟩, ⟨_, _, rfl, k0_, ⟨_, _, rfl, k1_, ⟨_, _, rfl, k2_, ⟨_, _, rfl, k3_, ⟨_, _, rfl, k4_, ⟨_, _, rfl, k5_, ⟨_, _, rfl, k6_, ⟨_, _, rfl, k7_, ⟨_, _, rfl, k8_, k9_⟩⟩⟩⟩⟩⟩⟩⟩⟩, fun lim hw => ⟨o0 lim (fun q hq => hw q (by simp only [DataW.weights, Tryd.underlying25]; exact DataW.weights_mem_each (j := 0) rfl rfl q hq)), o1 lim (fun q hq => hw q (by simp only [DataW.weights, Tryd.underlying25]; exact DataW.weights_mem_each (j := 1) rfl rfl q hq)), o2 lim (fun q hq => hw q (by simp only [DataW.weights, Tryd.underlying25]; exact DataW.weights_mem_each (j := 2) rfl rfl q hq)), o3 lim (fun q hq => hw q (by simp only [DataW.weights, Tryd.underlying25]; exact DataW.weights_mem_each (j := 3) rfl rfl q hq)), o4 lim (fun q hq => hw q (by simp only [DataW.weights, Tryd.underlying25]; exact DataW.weights_mem_each (j := 4) rfl rfl q hq)), o5 lim (fun q hq => hw q (by simp only [DataW.weights, Tryd.underlying25]; exact DataW.weights_mem_each (j := 5) rfl rfl q hq)), o6 lim (fun q hq => hw q (by simp only [DataW.weights, Tryd.underlying25]; exact DataW.weights_mem_each (j := 6) rfl rfl q hq)), o7 lim (fun q hq => hw q (by simp only [DataW.weights, Tryd.underlying25]; exact DataW.weights_mem_each (j := 7) rfl rfl q hq)), o8 lim (fun q hq => hw q (by simp only [DataW.weights, Tryd.underlying25]; exact DataW.weights_mem_each (j := 8) rfl rfl q hq)), o9 lim (fun q hq => hw q (by simp only [DataW.weights, Tryd.underlying25]; exact DataW.weights_mem_each (j := 9) rfl rfl q hq))⟩⟩
end Go.Proofs.YtkfgnjdchnpjeaaDoor

end
