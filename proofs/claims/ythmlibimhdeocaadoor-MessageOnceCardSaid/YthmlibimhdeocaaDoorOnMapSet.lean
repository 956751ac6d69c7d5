/- MsgClone, MsgIns, CopyK, MsgShift, MsgGrow, MsgInsert, MapSet: what the law MessageOnce asks of it. -/
import Derived.Test.YthmlibimhdeocaaDoorOnMsgIdx
import Derived.Shelf.SlicesE.Clone
import Derived.Shelf.SlGeneric
import Derived.Ground.SlgnProg
import Derived.Laws.IdiomCopy
import Derived.Shelf.Spec.SlicesInsert
import Derived.Lib.AppendZerosOnto
import Derived.Laws.NewBlocks
import Derived.Maps.Own
import Derived.Below
section
namespace Go.Proofs.YthmlibimhdeocaaDoor
open Go.RowKit Go.Shelf Go.Proofs.YthmlibimhdeocaaDoor.QD Go.Proofs.YthmlibimhdeocaaDoorW.PrintWords
set_option linter.unusedVariables false
set_option linter.unusedSimpArgs false


/-- All cells of messages. -/
def rowM (l : List S23) : List Value := l.flatMap encM
theorem rowM_len (l : List S23) : (rowM l).length = l.length * 7 := by
  induction l with
  | nil => rfl
  | cons x r ih =>
    have e : rowM (x :: r) = encM x ++ rowM r := rfl
    have e7 : (encM x).length = 7 := rfl
    rw [e, List.length_append, ih, e7, List.length_cons]
    omega
theorem rowM_reps {w : World} {base : Nat} {ok : Nat → Prop} (l : List S23) : Reps (k23.M w base ok) 7 l (rowM l) := by
  refine ⟨rowM_len l, ?_⟩
  induction l with
  | nil => intro j p hj; simp at hj
  | cons x r ih =>
    intro j p hj
    have e : rowM (x :: r) = encM x ++ rowM r := rfl
    have e7 : (encM x).length = 7 := rfl
    rw [e]
    cases j with
    | zero =>
      obtain rfl : x = p := by simpa using hj
      rw [Nat.zero_mul, List.drop_zero, List.take_left' e7]
      exact k23_mkM w base ok x
    | succ j =>
      rw [show (j + 1) * 7 = 7 + j * 7 by omega, ← List.drop_drop, List.drop_left' e7]
      exact ih j p (by simpa using hj)
/-- A cell of the row of all, out of the elements' cells. -/
theorem rowM_cell {l : List S23} : ∀ {j : Nat} {u : Value}, (rowM l)[j]? = some u → ∃ i x q, l[i]? = some x ∧ (encM x)[q]? = some u ∧ j = i * 7 + q := by
  induction l with
  | nil => intro j u h; simp [rowM] at h
  | cons x r ih =>
    intro j u h
    have e : rowM (x :: r) = encM x ++ rowM r := rfl
    have e7 : (encM x).length = 7 := rfl
    rw [e] at h
    by_cases hj : j < 7
    · rw [List.getElem?_append_left (by omega)] at h
      exact ⟨0, x, j, rfl, h, by omega⟩
    · rw [List.getElem?_append_right (by omega), e7] at h
      obtain ⟨i, y, q, h1, h2, h3⟩ := ih h
      exact ⟨i + 1, y, q, by simpa using h1, h2, by omega⟩
theorem rowM_one (l : List S23) : ∀ u ∈ rowM l, u.oneCell' = true := by
  intro u hu
  obtain ⟨x, hx, hm⟩ := List.mem_flatMap.1 hu
  simp only [encM, List.mem_cons, List.not_mem_nil, or_false] at hm
  rcases hm with rfl | rfl | rfl | rfl | rfl | rfl | rfl <;> rfl
set_option maxHeartbeats 4000000 in
set_option maxRecDepth 100000 in
theorem clone_calls (A : Option Addr) (c : Nat) (l : List S23) (w : World) (hC : Kd.C k23 w A l.length l) (hl : l.length ≤ 1000000) :
    Calls Tryd.prog 43 #[.slice A l.length c] w fun e w' => ∃ v, e = .returned v ∧ Kd.R k23 23 w' w.heap.size (fun _ => True) v l ∧ Below w.heap.size w w' := by
  obtain ⟨h1, h2, h3⟩ := hC
  cases l with
  | nil =>
    cases A with
    | none =>
      have hcon := AnyE.slices_Clone_nil Tryd.lClone 0 c w
      refine hcon.mono ?_
      rintro e w' ⟨rfl, rfl⟩
      exact ⟨_, rfl, Kd.R_nil _ _ _ _ _, Below.refl _ _⟩
    | some ad =>
      clear h1 h2 h3 hl
      have q22 : ∀ w, (binOp .eql 32 (.slice (some ad) 0 c) (.slice none 0 0)).run Tryd.prog w = .ok (.bool false) w := fun w => Lib.run_eql_slice_nil w _ _ (some ad) 0 c 0 0 Tryd.underlying32
      go_enter Tryd.func43, Tryd.ntmps43
      go_wp2
      go_ret
      exact ⟨_, rfl, ⟨fun _ _ => trivial, [], ⟨rfl, .inr ⟨w.heap.size, 0, #[], rfl, Nat.le_refl _, heap_alloc_new w _, Nat.le_refl _, Nat.zero_le _, rfl, rfl⟩⟩, rowM_reps []⟩, below_alloc (Below.refl _ _) _⟩
  | cons x r =>
    obtain ⟨ad, rfl, hcells⟩ := h3 (by simp)
    obtain ⟨cs0, hl0, hK0, hc0⟩ := hcells 0 x rfl
    obtain rfl := k23_open hK0
    have hc00 := hc0 0 (.string x.f0) rfl
    have hc01 : w.cell? ad = some (.string x.f0) := by simpa [Addr.add] using hc00
    obtain ⟨b, off, hb⟩ : ∃ b off, ad = ⟨b, off, none⟩ := ⟨_, _, spot_none hc01⟩
    subst hb
    obtain ⟨i0, hi0, hzz⟩ := Option.map_eq_some_iff.1 info23
    simp only [Prod.mk.injEq] at hzz
    have hmx : (x :: r).length ≤ maxLen := Nat.le_trans hl (by decide)
    have hcon := AnyE.slices_Clone Tryd.lClone i0 _ 7 72 hi0 hzz.1 hzz.2.1 hzz.2.2 rfl (by omega) sizeOfM b off (x :: r).length c (rowM (x :: r)) w (rowM_len _) hmx (by omega) (fun j u hj => by
      obtain ⟨i, y, q, g1, g2, g3⟩ := rowM_cell hj
      obtain ⟨cs1, hl1, hK1, hc1⟩ := hcells i y g1
      have e1 := k23_open hK1
      subst e1
      have h5 := hc1 q u g2
      rw [Addr.add_lit] at h5
      rw [g3]
      exact h5) (rowM_one _)
    refine hcon.mono ?_
    rintro e w' ⟨v, rfl, ho, hne, hbl⟩
    refine ⟨v, rfl, ⟨fun _ _ => trivial, rowM (x :: r), ho, rowM_reps _⟩, hbl⟩
end Go.Proofs.YthmlibimhdeocaaDoor

end
section
namespace Go.Proofs.YthmlibimhdeocaaDoor
open Go.RowKit Go.Proofs.YthmlibimhdeocaaDoor.QD Go.Proofs.YthmlibimhdeocaaDoorW.PrintWords
set_option linter.unusedVariables false
set_option linter.unusedSimpArgs false

theorem one_row {w : World} {g : Nat} {m : S23} (hg : w.heap[g]? = some (.cells (encM m).toArray 23 (0, 0))) : Kd.C k23 w (some ⟨g, 0, none⟩) 1 [m] := by
  refine ⟨rfl, by omega, fun _ => ⟨_, rfl, fun j p hj => ?_⟩⟩
  cases j with
  | succ j => simp at hj
  | zero =>
    obtain rfl : m = p := by simpa using hj
    refine ⟨encM m, rfl, k23_mk w m, fun i u hi => ?_⟩
    rw [Addr.add_lit, blk_cell hg]
    simpa using hi
set_option maxHeartbeats 4000000 in
set_option maxRecDepth 100000 in
theorem ins_end (m : S23) (g : Nat) (l : List S23) (A : Option Addr) (c : Nat) (W0 w : World) (hR : Kd.R k23 23 w W0.heap.size (fun _ => True) (.slice A l.length c) l)
    (hg : w.heap[g]? = some (.cells (encM m).toArray 23 (0, 0))) (HB : Below W0.heap.size W0 w) (hl : l.length ≤ 1000000) :
    Calls Tryd.prog 45 #[.slice A l.length c, .int .i64 (l.length : Int), .slice (some ⟨g, 0, none⟩) 1 1] w fun e w' => ∃ v, e = .returned v ∧ Kd.R k23 23 w' W0.heap.size (fun _ => True) v (l ++ [m]) ∧ Below W0.heap.size W0 w' := by
  obtain ⟨n, hn⟩ : ∃ n, l.length = n := ⟨_, rfl⟩
  have hc : n ≤ c := by rw [← hn]; exact (Kd.R_reads' hR).2.1
  have n1 : n ≤ 1000000 := by omega
  rw [hn]
  have HF := Lib.hid (And.intro hR (And.intro hg (And.intro HB (And.intro hl hn))))
  clear hR hg HB hl hn
  go_enter Tryd.func45, Tryd.ntmps45
  go_wp2_with (at_builtin; go_loud (refine Kd.R_append_rows k23 (Rr := k23.K w) (w0 := W0) W0.heap.size rfl (.tmp 23) (.tmp 24) 32 23 (.agg #[(.string ⟨#[]⟩), (.int .i64 0), (.int .i64 0), (.int .i64 0), (.int .i64 0), (.int .i64 0), (.string ⟨#[]⟩)]) 72 rfl Tryd.underlying32 info23 rfl (by decide) (by omega) (.slice A n c) l [m] (some ⟨g, 0, none⟩) 1 1 (fun _ => True) (fun _ => False) rfl rfl ?aO ?aR ?aK (fun _ h => h.elim) ?aF ?aB ?aS ?aL ?_; (case aR => exact one_row HF.out.2.1); (case aK => intro x cs h; have e := k23_open h; subst e; exact k23_mkM _ _ _ x); (case aB => exact HF.out.2.2.1); (case aF => exact fun _ _ => trivial); (case aO => have h0 := HF.out.1; have hn := HF.out.2.2.2.2; rw [hn] at h0; exact h0); (case aS => exact HF.out.2.2.1.size); (case aL => have h4 := HF.out.2.2.2.1; omega); intro v2 w2 ho hb hg hat; have HO := Lib.hid ho; have HB2 := Lib.hid hb; clear ho hb hg hat))
  all_goals (go_ret; exact ⟨_, rfl, HO.out, HB2.out⟩)
end Go.Proofs.YthmlibimhdeocaaDoor

end
section
namespace Go.Proofs.YthmlibimhdeocaaDoor
open Go

theorem run_copy_cellsK {P : Program} (w : World) (dT sT ty elem : TypeId) (k b o dLen dCap : Nat) (a : Addr) (sLen sCap q : Nat) (cs : List Value)
    (hu : P.underlying dT = some (.slice elem)) (hs : (P.info? elem).map (·.size) = some k) (hq : q = Nat.min sLen dLen) (hn : cs.length = q * k)
    (hsrc : ∀ j v, cs[j]? = some v → w.cell? (a.add j) = some v) (hc : ∀ j, j < cs.length → (w.cell? ⟨b, o + j, none⟩).isSome = true) (hf : ∀ j, j < cs.length → w.frozen? ⟨b, o + j, none⟩ = false) (h1 : ∀ v ∈ cs, v.oneCell' = true) :
    (Builtin.copy_ #[dT, sT] ty #[.slice (some ⟨b, o, none⟩) dLen dCap, .slice (some a) sLen sCap]).run P w = .ok (goInt q) (w.setCells b o cs) := by
  have hl := run_loadCells_list (P := P) w a cs hsrc
  have hst := run_storeCells_cells (P := P) b o cs 0 w (by simpa using hc) (by simpa using hf) h1
  cases hz : P.info? elem with
  | none => simp [hz] at hs
  | some i =>
    have hi : i.size = k := by simpa [hz] using hs
    rw [hn] at hl
    simp [Builtin.copy_, run_underlying hu, Builtin.lenOf, Builtin.firstCells, sizeOf, typeInfo, hz, hi, ← hq, hl, hst]
end Go.Proofs.YthmlibimhdeocaaDoor

end
section
namespace Go.Proofs.YthmlibimhdeocaaDoor
open Go.RowKit Go.Shelf Go.Lib Go.Proofs.YthmlibimhdeocaaDoor.QD Go.Proofs.YthmlibimhdeocaaDoorW.PrintWords
set_option linter.unusedVariables false
set_option linter.unusedSimpArgs false

set_option maxHeartbeats 4000000 in
set_option maxRecDepth 100000 in
theorem ins_shift (b n c i vb : Nat) (cs vs : List Value) (w : World) (hi : i < n) (hroom : n + 1 ≤ c) (hc63 : c ≤ 9223372036854775807) (hn6 : n ≤ 1000000) (hvb : vb ≠ b) (hcl : cs.length = n * 7) (hvl : vs.length = 7)
    (hcs : ∀ j v, cs[j]? = some v → w.cell? ⟨b, j, none⟩ = some v) (hsp : ∀ j, j < (n + 1) * 7 → (w.cell? ⟨b, j, none⟩).isSome = true) (hfz : ∀ j, j < (n + 1) * 7 → w.frozen? ⟨b, j, none⟩ = false)
    (hvs : ∀ j v, vs[j]? = some v → w.cell? ⟨vb, j, none⟩ = some v) (h1c : ∀ v ∈ cs, v.oneCell' = true) (h1v : ∀ v ∈ vs, v.oneCell' = true)
    (tA tB : TypeId) (kA kB : Nat) (hsa : w.shape? vb = some (tA, kA)) (hsb : w.shape? b = some (tB, kB)) (hkB : kB ≠ 0) (hfa : w.frozen? ⟨vb, 0, none⟩ = false) (hfe : w.frozen? ⟨vb, kA, none⟩ = false) :
    Calls Tryd.prog 45 #[.slice (some ⟨b, 0, none⟩) n c, .int .i64 i, .slice (some ⟨vb, 0, none⟩) 1 1] w fun e w' =>
      e = .returned (.slice (some ⟨b, 0, none⟩) (n + 1) c) ∧ w' = (w.drew.setCells b ((i + 1) * 7) (cs.drop (i * 7))).setCells b (i * 7) vs := by
  have hsz : (Tryd.prog.info? 23).map (·.size) = some 7 := by kernel_rfl
  have hov : ∀ lb cb, (callFunc 59 #[.slice (some ⟨vb, 0, none⟩) 1 1, .slice (some ⟨b, (i + 1) * 7, none⟩) lb cb]).run Tryd.prog w = .ok (.value (.bool false)) w := fun lb cb => by
    rw [run_callFunc_extern Tryd.func59 (by kernel_rfl) (by kernel_rfl) (by kernel_rfl) (e := Extern.SlicesOverlaps.overlaps #[32, 32] #[4]) (by kernel_rfl),
      Lib.run_overlaps_apart w 32 4 23 Tryd.underlying32 7 sizeOfM ⟨vb, 0, none⟩ ⟨b, (i + 1) * 7, none⟩ 1 1 lb cb hvb tA tB kA kB hsa hsb hkB hfa hfe]
    rfl
  have hz2 : ¬ ((i : Int) = (n : Int)) := by omega
  have hi2 : (i : Int) < n := by omega
  have hr2 : ¬ (c : Int) < (n : Int) + 1 := by omega
  have mixed : Tryd.prog.follows Departure.mixedOrders = true := by kernel_rfl
  have hw1 : IntKind.i64.wrap ((i : Int) + 1) = (i : Int) + 1 := by rw [IntKind.wrap_i64]; omega
  have hb1 : (0 : Int) ≤ (i : Int) + 1 := by omega
  have hin : i ≤ n := by omega
  have htn : ((i : Int) + 1).toNat = i + 1 := by omega
  have hb2 : ¬ (c = i + 1) := by omega
  have hb3 : (i : Int) ≤ (n : Int) + 1 := by omega
  have hb4 : ¬ (c = i) := by omega
  have hb5 : (i : Int) + 1 ≤ (n : Int) + 1 := by omega
  have hdl : (cs.drop (i * 7)).length = (n - i) * 7 := by rw [List.length_drop, hcl]; omega
  have hcp1 : ∀ ty dc sc, (Builtin.copy_ #[32, 32] ty #[.slice (some ⟨b, (i + 1) * 7, none⟩) (n - i) dc, .slice (some ⟨b, i * 7, none⟩) (n + 1 - i) sc]).run Tryd.prog w.drew = .ok (goInt (n - i : Nat)) (w.drew.setCells b ((i + 1) * 7) (cs.drop (i * 7))) := fun ty dc sc =>
    run_copy_cellsK w.drew _ _ ty 23 7 b ((i + 1) * 7) (n - i) dc ⟨b, i * 7, none⟩ (n + 1 - i) sc (n - i) (cs.drop (i * 7)) Tryd.underlying32 hsz (by simp only [Nat.min_def]; split <;> omega) hdl
      (fun j v hj => by rw [Addr.add_lit]; exact hcs (i * 7 + j) v (by rwa [List.getElem?_drop] at hj))
      (fun j hj => hsp _ (by omega)) (fun j hj => hfz _ (by omega)) (fun v hv => h1c v (List.mem_of_mem_drop hv))
  obtain ⟨W1, hW1⟩ : ∃ W1, W1 = w.drew.setCells b ((i + 1) * 7) (cs.drop (i * 7)) := ⟨_, rfl⟩
  have hsp1 : ∀ k, k < (n + 1) * 7 → (W1.cell? ⟨b, k, none⟩).isSome = true := fun k hk => by
    rw [hW1]
    exact isSome_setCells b (cs.drop (i * 7)) ((i + 1) * 7) w.drew (fun j hj => hsp _ (by rw [hdl] at hj; omega)) k (hsp k hk)
  have hcp2 : ∀ (W : World), (∀ x, W.cell? x = W1.cell? x) → (∀ x, W.frozen? x = W1.frozen? x) → ∀ ty dc, (Builtin.copy_ #[32, 32] ty #[.slice (some ⟨b, i * 7, none⟩) (n + 1 - i) dc, .slice (some ⟨vb, 0, none⟩) 1 1]).run Tryd.prog W = .ok (goInt (1 : Nat)) (W.setCells b (i * 7) vs) := fun W hWc hWf ty dc =>
    run_copy_cellsK W _ _ ty 23 7 b (i * 7) (n + 1 - i) dc ⟨vb, 0, none⟩ 1 1 1 vs Tryd.underlying32 hsz (by simp only [Nat.min_def]; split <;> omega) hvl
      (fun j v hj => by
        rw [Addr.add_lit, hWc, hW1, World.cell?_setCells_out b _ _ _ _ (fun h _ => absurd h hvb), Nat.zero_add]
        exact hvs j v hj)
      (fun j hj => by rw [hWc]; exact hsp1 _ (by omega)) (fun j hj => by rw [hWf, hW1, World.frozen?_setCells]; exact hfz _ (by omega)) h1v
  rw [← hW1] at hcp1
  go_enter Tryd.func45, Tryd.ntmps45
  go_wp2_with (simp only [hov])
  go_region_law_o (refine step_copy_runI rfl _ _ 32 32 rfl _ _ (by simp [Act.eval, Act.put]) (by simp [Act.eval, Act.put]) (hcp1 _ _ _) ?_)
  go_wp2_with (at_builtin; refine wpList_copy_runI _ rfl _ _ 32 32 rfl _ _ rfl rfl (hcp2 _ (fun _ => rfl) (fun _ => rfl) _ _) ?_)
  go_ret
  first | exact ⟨rfl, rfl⟩ | exact ⟨rfl, by rw [hW1]⟩
end Go.Proofs.YthmlibimhdeocaaDoor

end
section
namespace Go.Proofs.YthmlibimhdeocaaDoor
open Go.RowKit Go.Shelf Go.Lib Go.Proofs.YthmlibimhdeocaaDoor.QD Go.Proofs.YthmlibimhdeocaaDoorW.PrintWords
set_option linter.unusedVariables false
set_option linter.unusedSimpArgs false

def zM : Value := .agg #[(.string ⟨#[]⟩), (.int .i64 0), (.int .i64 0), (.int .i64 0), (.int .i64 0), (.int .i64 0), (.string ⟨#[]⟩)]
set_option maxHeartbeats 4000000 in
set_option maxRecDepth 100000 in
theorem ins_grow (b n c i vb : Nat) (cs vs : List Value) (w : World) (hi : i < n) (hnc : n ≤ c) (hroom : c < n + 1) (hn6 : n ≤ 1000000) (hcl : cs.length = n * 7) (hvl : vs.length = 7)
    (hcs : ∀ j v, cs[j]? = some v → w.cell? ⟨b, j, none⟩ = some v)
    (hvs : ∀ j v, vs[j]? = some v → w.cell? ⟨vb, j, none⟩ = some v) (h1c : ∀ v ∈ cs, v.oneCell' = true) (h1v : ∀ v ∈ vs, v.oneCell' = true) :
    Calls Tryd.prog 45 #[.slice (some ⟨b, 0, none⟩) n c, .int .i64 i, .slice (some ⟨vb, 0, none⟩) 1 1] w fun e w' => ∃ G : Nat, n + 1 ≤ G ∧ G ≤ maxLen ∧
      e = .returned (.slice (some ⟨w.heap.size, 0, none⟩) (n + 1) G) ∧
      w' = (((w.alloc (.cells ((cs.take (i * 7)).toArray ++ Builtin.zeroCells zM.cells (n + 1 - i) ++ Builtin.zeroCells zM.cells (G - (n + 1))) 23)).drew.setCells w.heap.size (i * 7) vs).drew).setCells w.heap.size ((i + 1) * 7) (cs.drop (i * 7)) := by
  have mixed : Tryd.prog.follows Departure.mixedOrders = true := by kernel_rfl
  obtain ⟨i0, hi0, hzz⟩ := Option.map_eq_some_iff.1 info23
  simp only [Prod.mk.injEq] at hzz
  obtain ⟨hz0, hzs, hzb⟩ := hzz
  have hz0' : i0.zero = some zM := hz0
  have hz2 : ¬ ((i : Int) = (n : Int)) := by omega
  have hz3 : (c : Int) < (n : Int) + 1 := by omega
  have hsz : (Tryd.prog.info? 23).map (·.size) = some 7 := by kernel_rfl
  have hbw : b < w.heap.size := block_lt_of_cell (hcs 0 _ (List.getElem?_eq_getElem (by omega)))
  have hvw : vb < w.heap.size := block_lt_of_cell (hvs 0 _ (List.getElem?_eq_getElem (by omega)))
  have hkk : (n : Int) + 1 - (i : Int) = ((n + 1 - i : Nat) : Int) := by omega
  have hik : i + (n + 1 - i) = n + 1 := by omega
  have hold : (Builtin.firstCells i0.size i (.slice (some ⟨b, 0, none⟩) i c)).run Tryd.prog w.drew = .ok (cs.take (i * 7)).toArray w.drew := by
    rw [hzs]
    exact run_firstCells_some w.drew 7 i ⟨b, 0, none⟩ i c (cs.take (i * 7)) (by rw [List.length_take]; omega) (fun j v hj => by
      rw [Addr.add_lit]
      rw [List.getElem?_take] at hj
      split at hj
      · rw [Nat.zero_add]; exact hcs j v hj
      · cases hj)
  have hrz : ∀ ty, (Builtin.append_ #[32, 3] ty #[.slice (some ⟨b, 0, none⟩) i c, .int .i64 ((n : Int) + 1 - (i : Int))]).run Tryd.prog w =
      .ok (.slice (some ⟨w.heap.size, 0, none⟩) (n + 1) (grownCap w (n + 1) c 23)) (w.drew.alloc (.cells ((cs.take (i * 7)).toArray ++ Builtin.zeroCells zM.cells (n + 1 - i) ++ Builtin.zeroCells zM.cells (grownCap w (n + 1) c 23 - (n + 1))) 23)) := fun ty => by
    have h := Lib.run_append_grow_zeros w 32 3 ty 23 i0 _ .i64 .i64 Tryd.underlying32 Tryd.underlying3 hi0 hz0' (some ⟨b, 0, none⟩) i c (cs.take (i * 7)) hold (n + 1 - i) (by omega) (by omega) (by omega) (by omega) (by rw [hzb]; omega) (by rw [hzb, hik]; exact growslice_fits hroom (by omega))
    rw [hik] at h
    rw [hkk]
    exact h
  obtain ⟨G, hG⟩ : ∃ G, G = grownCap w (n + 1) c 23 := ⟨_, rfl⟩
  obtain ⟨ROW, hROW⟩ : ∃ ROW : Array Value, ROW = (cs.take (i * 7)).toArray ++ Builtin.zeroCells zM.cells (n + 1 - i) ++ Builtin.zeroCells zM.cells (G - (n + 1)) := ⟨_, rfl⟩
  rw [← hG] at hrz
  rw [← hROW] at hrz
  have hRl : (n + 1) * 7 ≤ ROW.size := by
    rw [hROW]
    simp [Builtin.zeroCells, Value.cells, zM, hcl]
    omega
  obtain ⟨W1, hW1⟩ : ∃ W1, W1 = w.drew.alloc (.cells ROW 23) := ⟨_, rfl⟩
  rw [← hW1] at hrz
  have hN : ∀ j, j < (n + 1) * 7 → (W1.cell? ⟨w.heap.size, j, none⟩).isSome = true := fun j hj => by
    rw [hW1, World.cell?_alloc_at (w := w.drew) ROW _ w.heap.size j rfl, Array.getElem?_eq_getElem (by omega)]; rfl
  have hNf : ∀ j, W1.frozen? ⟨w.heap.size, j, none⟩ = false := fun j => by rw [hW1]; exact World.frozen?_alloc_at (w := w.drew) ROW _ w.heap.size j rfl
  have hOb : ∀ j v, w.cell? ⟨b, j, none⟩ = some v → W1.cell? ⟨b, j, none⟩ = some v := fun j v h => by rw [hW1, World.cell?_alloc_past (w := w.drew) _ b j hbw]; exact h
  have hOv : ∀ j v, w.cell? ⟨vb, j, none⟩ = some v → W1.cell? ⟨vb, j, none⟩ = some v := fun j v h => by rw [hW1, World.cell?_alloc_past (w := w.drew) _ vb j hvw]; exact h
  have hcpA : ∀ (W : World), (∀ x, W.cell? x = W1.cell? x) → (∀ x, W.frozen? x = W1.frozen? x) → ∀ ty dc, (Builtin.copy_ #[32, 32] ty #[.slice (some ⟨w.heap.size, i * 7, none⟩) (n + 1 - i) dc, .slice (some ⟨vb, 0, none⟩) 1 1]).run Tryd.prog W = .ok (goInt (1 : Nat)) (W.setCells w.heap.size (i * 7) vs) := fun W hWc hWf ty dc =>
    run_copy_cellsK W _ _ ty 23 7 w.heap.size (i * 7) (n + 1 - i) dc ⟨vb, 0, none⟩ 1 1 1 vs Tryd.underlying32 hsz (by simp only [Nat.min_def]; split <;> omega) hvl
      (fun j v hj => by rw [Addr.add_lit, hWc, Nat.zero_add]; exact hOv _ v (hvs j v hj))
      (fun j hj => by rw [hWc]; exact hN _ (by omega)) (fun j hj => by rw [hWf]; exact hNf _) h1v
  have hGn : n + 1 ≤ G := by rw [hG]; exact grownCap_ge w _ _ _
  have hGm : G ≤ maxLen := by rw [hG]; exact grownCap_le_maxLen w (n + 1) c 23 (by unfold maxLen; omega)
  have hG63 : G ≤ 9223372036854775807 := by
    have := hGm
    unfold maxLen at this
    omega
  have hGi : ¬ (G = i) := by omega
  have hGim : ¬ (G = i + 1) := by omega
  have hci : ¬ (c = i) := by omega
  have hbN : b ≠ w.heap.size := by omega
  have hdl : (cs.drop (i * 7)).length = (n - i) * 7 := by rw [List.length_drop, hcl]; omega
  have hcpB : ∀ (W : World), (∀ x, W.cell? x = (W1.setCells w.heap.size (i * 7) vs).cell? x) → (∀ x, W.frozen? x = (W1.setCells w.heap.size (i * 7) vs).frozen? x) → ∀ ty dc sc, (Builtin.copy_ #[32, 32] ty #[.slice (some ⟨w.heap.size, (i + 1) * 7, none⟩) (n + 1 - (i + 1)) dc, .slice (some ⟨b, i * 7, none⟩) (n - i) sc]).run Tryd.prog W = .ok (goInt (n - i : Nat)) (W.setCells w.heap.size ((i + 1) * 7) (cs.drop (i * 7))) := fun W hWc hWf ty dc sc =>
    run_copy_cellsK W _ _ ty 23 7 w.heap.size ((i + 1) * 7) (n + 1 - (i + 1)) dc ⟨b, i * 7, none⟩ (n - i) sc (n - i) (cs.drop (i * 7)) Tryd.underlying32 hsz (by simp only [Nat.min_def]; split <;> omega) hdl
      (fun j v hj => by
        rw [Addr.add_lit, hWc, World.cell?_setCells_out _ _ _ _ _ (fun h _ => absurd h hbN)]
        exact hOb _ v (hcs (i * 7 + j) v (by rwa [List.getElem?_drop] at hj)))
      (fun j hj => by rw [hWc]; exact isSome_setCells _ _ _ _ (fun t ht => hN _ (by omega)) _ (hN _ (by omega)))
      (fun j hj => by rw [hWf, World.frozen?_setCells]; exact hNf _) (fun v hv => h1c v (List.mem_of_mem_drop hv))
  refine Calls.mono (R := fun e w' => e = .returned (.slice (some ⟨w.heap.size, 0, none⟩) (n + 1) G) ∧
      w' = (((w.alloc (.cells ROW 23)).drew.setCells w.heap.size (i * 7) vs).drew).setCells w.heap.size ((i + 1) * 7) (cs.drop (i * 7))) ?_ (by
    rintro e w' ⟨h1, h2⟩
    exact ⟨G, hGn, hGm, h1, by rw [h2, hROW]⟩)
  subst hW1
  have hE1 : ∀ x, ((w.alloc (.cells ROW 23)).drew).cell? x = (w.drew.alloc (.cells ROW 23)).cell? x := fun x => rfl
  have hE2 : ∀ x, ((w.alloc (.cells ROW 23)).drew).frozen? x = (w.drew.alloc (.cells ROW 23)).frozen? x := fun x => rfl
  have hF1 : ∀ x, (((w.alloc (.cells ROW 23)).drew.setCells w.heap.size (i * 7) vs).drew).cell? x = ((w.drew.alloc (.cells ROW 23)).setCells w.heap.size (i * 7) vs).cell? x := fun x => rfl
  have hF2 : ∀ x, (((w.alloc (.cells ROW 23)).drew.setCells w.heap.size (i * 7) vs).drew).frozen? x = ((w.drew.alloc (.cells ROW 23)).setCells w.heap.size (i * 7) vs).frozen? x := fun x => rfl
  have hw1 : IntKind.i64.wrap ((i : Int) + 1) = (i : Int) + 1 := by rw [IntKind.wrap_i64]; omega
  have hb1 : (0 : Int) ≤ (i : Int) + 1 := by omega
  have hin : i ≤ n := by omega
  have htn : ((i : Int) + 1).toNat = i + 1 := by omega
  have hb3 : (i : Int) ≤ (n : Int) := by omega
  have hb5 : (i : Int) + 1 ≤ (n : Int) + 1 := by omega
  clear hkk hik hold hROW hG hRl hz0 hz0' hzs hzb hi0
  go_enter Tryd.func45, Tryd.ntmps45
  go_wp2_with (first
    | (at_builtin; refine Lib.wpList_append_run _ rfl _ _ _ _ rfl _ _ rfl rfl _ _ (hrz _) ?_)
    | (at_builtin; refine wpList_copy_runI _ rfl _ _ 32 32 rfl _ _ rfl rfl (hcpA _ hE1 hE2 _ _) ?_)
    | (at_builtin; refine wpList_copy_runI _ rfl _ _ 32 32 rfl _ _ rfl rfl (hcpB _ (fun _ => rfl) (fun _ => rfl) _ _ _) ?_))
  go_region_law_o (refine step_copy_runI rfl _ _ 32 32 rfl (.slice (some ⟨w.heap.size, (i + 1) * 7, none⟩) (n + 1 - (i + 1)) (G - (i + 1))) (.slice (some ⟨b, i * 7, none⟩) (n - i) (c - i)) (by simp [Act.eval, Act.put]) (by simp [Act.eval, Act.put]) (hcpB _ hF1 hF2 3 (G - (i + 1)) (c - i)) ?_)
  go_wp2
  go_ret
  exact ⟨rfl, rfl⟩
end Go.Proofs.YthmlibimhdeocaaDoor

end
section
namespace Go.Proofs.YthmlibimhdeocaaDoor
open Go.RowKit Go.Shelf Go.Lib Go.Proofs.YthmlibimhdeocaaDoor.QD Go.Proofs.YthmlibimhdeocaaDoorW.PrintWords
set_option linter.unusedVariables false
set_option linter.unusedSimpArgs false

/-- A row of cells, written from a place on. -/
def putL (cur : Array Value) : Nat → List Value → Array Value
  | _, [] => cur
  | o, v :: r => putL (cur.setIfInBounds o v) (o + 1) r
theorem setCells_blk {b : Nat} {e : TypeId} : ∀ (vs : List Value) (o : Nat) (w : World) (cur : Array Value), w.heap[b]? = some (.cells cur e (0, 0)) → (w.setCells b o vs).heap[b]? = some (.cells (putL cur o vs) e (0, 0))
  | [], _, _, _, h => h
  | v :: r, o, w, cur, h => by
    rw [World.setCells, putL]
    exact setCells_blk r (o + 1) _ _ (blk_set h o v)
theorem setCells_below {b B : Nat} {a : World} (hb : B ≤ b) : ∀ (vs : List Value) (o : Nat) (w : World), Below B a w → Below B a (w.setCells b o vs)
  | [], _, _, h => h
  | v :: r, o, w, h => by
    rw [World.setCells]
    exact setCells_below hb r (o + 1) _ (h.setCell hb v)
theorem putL_size : ∀ (vs : List Value) (o : Nat) (cur : Array Value), (putL cur o vs).size = cur.size
  | [], _, _ => rfl
  | v :: r, o, cur => by rw [putL, putL_size r]; simp
theorem putL_list : ∀ (vs : List Value) (o : Nat) (cur : Array Value), o + vs.length ≤ cur.size → (putL cur o vs).toList = cur.toList.take o ++ vs ++ cur.toList.drop (o + vs.length)
  | [], o, cur, _ => by simp [putL]
  | v :: r, o, cur, h => by
    simp only [List.length_cons] at h
    rw [putL, putL_list r (o + 1) _ (by simp <;> omega), Array.toList_setIfInBounds, List.length_cons]
    have hl : o < cur.toList.length := by simp <;> omega
    rw [List.take_set, List.drop_set, if_pos (by omega), List.take_add_one, List.getElem?_eq_getElem hl]
    rw [show ((some cur.toList[o]).toList : List Value) = [cur.toList[o]] from rfl]
    rw [List.set_append_right _ _ (by rw [List.length_take]; omega), List.length_take, Nat.min_eq_left (by omega), Nat.sub_self]
    simp [Nat.add_assoc, Nat.add_comm 1]
theorem splice_shift {α : Type} (a b v C : List α) (s : List α) (hC : C = a ++ b ++ s) (hs : v.length ≤ s.length) (X : List α) (hX : X = C.take (a.length + v.length) ++ b ++ C.drop (a.length + v.length + b.length)) :
    (X.take a.length ++ v ++ X.drop (a.length + v.length)).take (a.length + v.length + b.length) = a ++ v ++ b := by
  have h1 : X.take a.length = a := by
    rw [hX, List.append_assoc, List.take_append_of_le_length (by rw [List.length_take, hC]; simp <;> omega), List.take_take, Nat.min_eq_left (by omega), hC, List.append_assoc, List.take_left]
  have h2 : X.drop (a.length + v.length) = b ++ C.drop (a.length + v.length + b.length) := by
    rw [hX, List.append_assoc, List.drop_left' (by rw [List.length_take, hC]; simp <;> omega)]
  rw [h1, h2]
  rw [show a ++ v ++ (b ++ List.drop (a.length + v.length + b.length) C) = (a ++ v ++ b) ++ List.drop (a.length + v.length + b.length) C by simp]
  exact List.take_left' (by simp only [List.length_append])
theorem splice_grow {α : Type} (a b v s : List α) (hs : v.length + b.length ≤ s.length) (X : List α) (hX : X = (a ++ s).take a.length ++ v ++ (a ++ s).drop (a.length + v.length)) :
    (X.take (a.length + v.length) ++ b ++ X.drop (a.length + v.length + b.length)).take (a.length + v.length + b.length) = a ++ v ++ b := by
  have h1 : X.take (a.length + v.length) = a ++ v := by
    rw [hX, List.take_left, List.take_left' (by simp)]
  rw [h1]
  exact List.take_left' (by simp only [List.length_append])
theorem reps_rowM {w : World} : ∀ (l : List S23) (cs : List Value), Reps (k23.K w) 7 l cs → cs = rowM l
  | [], cs, h => by
    have := h.1
    simp at this
    rw [this]
    rfl
  | x :: r, cs, h => by
    have hl := h.1
    rw [List.length_cons] at hl
    have h0 := h.2 0 x rfl
    rw [Nat.zero_mul, List.drop_zero] at h0
    have e0 : cs.take 7 = encM x := k23_open h0
    have ih := reps_rowM r (cs.drop 7) ⟨by rw [List.length_drop, hl]; omega, fun j p hj => by
      have := h.2 (j + 1) p hj
      rw [show (j + 1) * 7 = 7 + j * 7 by omega, ← List.drop_drop] at this
      exact this⟩
    rw [show rowM (x :: r) = encM x ++ rowM r from rfl, ← e0, ← ih, List.take_append_drop]
theorem rowM_append (a b : List S23) : rowM (a ++ b) = rowM a ++ rowM b := by simp [rowM]
theorem rowM_take (l : List S23) (i : Nat) : (rowM l).take (i * 7) = rowM (l.take i) := by
  by_cases h : i ≤ l.length
  · conv => lhs; rw [← List.take_append_drop i l, rowM_append]
    exact List.take_left' (by rw [rowM_len, List.length_take]; omega)
  · rw [List.take_of_length_le (by rw [rowM_len]; omega), List.take_of_length_le (by omega)]
theorem rowM_drop (l : List S23) (i : Nat) : (rowM l).drop (i * 7) = rowM (l.drop i) := by
  by_cases h : i ≤ l.length
  · conv => lhs; rw [← List.take_append_drop i l, rowM_append]
    exact List.drop_left' (by rw [rowM_len, List.length_take]; omega)
  · rw [List.drop_eq_nil_of_le (by rw [rowM_len]; omega), List.drop_eq_nil_of_le (by omega)]
    rfl
theorem insert_len (l : List S23) (i : Nat) (m : S23) (hi : i ≤ l.length) : (l.take i ++ m :: l.drop i).length = l.length + 1 := by
  simp <;> omega
/-- Any row of one's own, out of its block's cells. -/
theorem R_of_blk {w : World} {base g n cap : Nat} {cur : Array Value} {l : List S23} (hb : base ≤ g) (hh : w.heap[g]? = some (.cells cur 23 (0, 0))) (hn : n = l.length) (hnc : n ≤ cap) (hm : cap ≤ maxLen) (hs : cur.size = cap * 7) (ht : cur.toList.take (n * 7) = rowM l) :
    Kd.R k23 23 w base (fun _ => True) (.slice (some ⟨g, 0, none⟩) n cap) l := by
  subst hn
  exact ⟨fun _ _ => trivial, rowM l, ⟨rowM_len l, .inr ⟨g, cap, cur, rfl, hb, hh, hnc, hm, hs, ht⟩⟩, rowM_reps l⟩
set_option maxHeartbeats 4000000 in
set_option maxRecDepth 100000 in
theorem ins_calls (m : S23) (g i : Nat) (l : List S23) (A : Option Addr) (c : Nat) (W0 w : World) (hR : Kd.R k23 23 w W0.heap.size (fun _ => True) (.slice A l.length c) l)
    (hg : w.heap[g]? = some (.cells (encM m).toArray 23 (0, 0))) (hgA : ∀ a, A = some a → g ≠ a.block) (HB : Below W0.heap.size W0 w) (hl : l.length ≤ 1000000) (hi : i ≤ l.length) :
    Calls Tryd.prog 45 #[.slice A l.length c, .int .i64 (i : Int), .slice (some ⟨g, 0, none⟩) 1 1] w fun e w' => ∃ v, e = .returned v ∧ Kd.R k23 23 w' W0.heap.size (fun _ => True) v (l.take i ++ m :: l.drop i) ∧ Below W0.heap.size W0 w' := by
  by_cases hin : i = l.length
  · subst hin
    rw [List.take_length, List.drop_length]
    exact ins_end m g l A c W0 w hR hg HB hl
  have hlt : i < l.length := by omega
  obtain ⟨h0, inner, ho, hr⟩ := hR
  obtain ⟨hil, hor⟩ := ho
  rcases hor with ⟨hnil, hz⟩ | ⟨b, cap, cur, he, hbase, hheap, hnc, hcap, hsz, htake⟩
  · omega
  injection he with e1 e2 e3
  subst e1
  subst e3
  have hgb : g ≠ b := hgA _ rfl
  have hrow : inner = rowM l := reps_rowM (w := w) l inner ⟨hr.1, fun j p hj => k23.K_of_M (hr.2 j p hj)⟩
  rw [hrow] at htake
  change cur.size = c * 7 at hsz
  change cur.toList.take (l.length * 7) = rowM l at htake
  have hbw : b < w.heap.size := blk_lt hheap
  have hWw : W0.heap.size ≤ w.heap.size := HB.size
  have hcs : ∀ j v, (rowM l)[j]? = some v → w.cell? ⟨b, j, none⟩ = some v := fun j v hj => by
    rw [blk_cell hheap]
    rw [← htake, List.getElem?_take] at hj
    split at hj
    · simpa using hj
    · cases hj
  have hvs : ∀ j v, (encM m)[j]? = some v → w.cell? ⟨g, j, none⟩ = some v := fun j v hj => by
    rw [blk_cell hg]
    simpa using hj
  have h1v : ∀ v ∈ encM m, v.oneCell' = true := fun v hv => rowM_one [m] v (by simpa [rowM] using hv)
  have e7 : (encM m).length = 7 := rfl
  have hA : (rowM (l.take i)).length = i * 7 := by rw [rowM_len, List.length_take]; omega
  have hB : (rowM (l.drop i)).length = (l.length - i) * 7 := by rw [rowM_len, List.length_drop]
  have hgoal : rowM (l.take i ++ m :: l.drop i) = rowM (l.take i) ++ encM m ++ rowM (l.drop i) := by
    rw [rowM_append, show rowM (m :: l.drop i) = encM m ++ rowM (l.drop i) from rfl, List.append_assoc]
  by_cases hroom : l.length + 1 ≤ c
  · have hsp : ∀ j, j < (l.length + 1) * 7 → (w.cell? ⟨b, j, none⟩).isSome = true := fun j hj => by
      rw [blk_cell hheap, Array.getElem?_eq_getElem (by omega)]
      rfl
    refine (ins_shift b l.length c i g (rowM l) (encM m) w hlt hroom (by unfold maxLen at hcap; omega) hl hgb (rowM_len l) e7 hcs hsp (fun j _ => blk_frozen hheap j) hvs (rowM_one l) h1v _ _ 7 cur.size (by unfold World.shape?; rw [hg]; rfl) (by unfold World.shape?; rw [hheap]) (by omega) (blk_frozen hg 0) (blk_frozen hg 7)).mono ?_
    rintro e w' ⟨rfl, rfl⟩
    have hh1 : w.drew.heap[b]? = some (.cells cur 23 (0, 0)) := hheap
    have hh2 := setCells_blk ((rowM l).drop (i * 7)) ((i + 1) * 7) w.drew cur hh1
    have hh3 := setCells_blk (encM m) (i * 7) _ _ hh2
    refine ⟨_, rfl, R_of_blk hbase hh3 (by rw [insert_len _ _ _ hi]) hroom hcap (by rw [putL_size, putL_size, hsz]) ?_, setCells_below hbase _ _ _ (setCells_below hbase _ _ _ HB.drew)⟩
    rw [rowM_drop]
    have hC : cur.toList = rowM (l.take i) ++ rowM (l.drop i) ++ cur.toList.drop (l.length * 7) := by
      rw [← rowM_append, List.take_append_drop, ← htake, List.take_append_drop]
    have hlen : cur.toList.length = c * 7 := by simpa using hsz
    rw [putL_list _ _ _ (by rw [putL_size, e7, hsz]; omega), putL_list _ _ _ (by rw [hB, hsz]; omega)]
    have hfin := splice_shift (rowM (l.take i)) (rowM (l.drop i)) (encM m) cur.toList _ hC (by rw [List.length_drop, hlen, e7]; omega) _ rfl
    rw [hA, hB, e7] at hfin
    rw [hB, e7]
    rw [hgoal, ← hfin]
    rw [show (i + 1) * 7 = i * 7 + 7 by omega, show (l.length + 1) * 7 = i * 7 + 7 + (l.length - i) * 7 by omega]
  · refine (ins_grow b l.length c i g (rowM l) (encM m) w hlt hnc (by omega) hl (rowM_len l) e7 hcs hvs (rowM_one l) h1v).mono ?_
    rintro e w' ⟨G, hG1, hG2, rfl, rfl⟩
    obtain ⟨ROW, hROW⟩ : ∃ ROW : Array Value, ROW = ((rowM l).take (i * 7)).toArray ++ Builtin.zeroCells zM.cells (l.length + 1 - i) ++ Builtin.zeroCells zM.cells (G - (l.length + 1)) := ⟨_, rfl⟩
    rw [← hROW]
    have hRs : ROW.size = G * 7 := by
      rw [hROW]
      simp [Builtin.zeroCells, Value.cells, zM, rowM_len]
      omega
    have hh1 : (w.alloc (.cells ROW 23)).drew.heap[w.heap.size]? = some (.cells ROW 23 (0, 0)) := heap_alloc_new w _
    have hh2 := setCells_blk (encM m) (i * 7) _ _ hh1
    have hh3 := setCells_blk ((rowM l).drop (i * 7)) ((i + 1) * 7) ((w.alloc (.cells ROW 23)).drew.setCells w.heap.size (i * 7) (encM m)).drew _ (blk_drew hh2)
    refine ⟨_, rfl, R_of_blk hWw hh3 (by rw [insert_len _ _ _ hi]) hG1 hG2 (by rw [putL_size, putL_size, hRs]) ?_, setCells_below hWw _ _ _ (Below.drew (setCells_below hWw _ _ _ (Below.drew (HB.alloc hWw _))))⟩
    rw [rowM_drop]
    have hC : ROW.toList = rowM (l.take i) ++ (Builtin.zeroCells zM.cells (l.length + 1 - i) ++ Builtin.zeroCells zM.cells (G - (l.length + 1))).toList := by
      rw [hROW, rowM_take]; simp
    have hlen : ROW.toList.length = G * 7 := by simpa using hRs
    have hsl : (Builtin.zeroCells zM.cells (l.length + 1 - i) ++ Builtin.zeroCells zM.cells (G - (l.length + 1))).toList.length = G * 7 - i * 7 := by
      have := congrArg List.length hC
      rw [hlen, List.length_append, hA] at this
      omega
    rw [putL_list _ _ _ (by rw [putL_size, hB, hRs]; omega), putL_list _ _ _ (by rw [e7, hRs]; omega)]
    have hfin := splice_grow (rowM (l.take i)) (rowM (l.drop i)) (encM m) _ (by rw [hsl, e7, hB]; omega) _ rfl
    rw [hA, hB, e7, ← hC] at hfin
    rw [hB, e7]
    rw [hgoal, ← hfin]
    rw [show (i + 1) * 7 = i * 7 + 7 by omega, show (l.length + 1) * 7 = i * 7 + 7 + (l.length - i) * 7 by omega]
end Go.Proofs.YthmlibimhdeocaaDoor

end
section
namespace Go.Proofs.YthmlibimhdeocaaDoor
open Go Go.MapKept Go.ChangeMaps Go.Maps Go.RowKit

theorem eraseIdx_filter : ∀ (S : List Int) (j : Nat) (k : Int), S.Nodup → S[j]? = some k → S.eraseIdx j = S.filter (fun x => x != k)
  | [], j, k, _, h => by simp at h
  | x :: r, 0, k, hn, h => by
    obtain rfl : x = k := by simpa using h
    have hx : x ∉ r := (List.nodup_cons.1 hn).1
    rw [List.eraseIdx_cons_zero, List.filter_cons, if_neg (by simp)]
    exact (List.filter_eq_self.2 (fun y hy => by
      simp only [bne_iff_ne, ne_eq]
      rintro rfl
      exact hx hy)).symm
  | x :: r, j + 1, k, hn, h => by
    have hx : x ∉ r := (List.nodup_cons.1 hn).1
    have hk : r[j]? = some k := by simpa using h
    have hne : x ≠ k := by
      rintro rfl
      exact hx (List.mem_of_getElem? hk)
    rw [List.eraseIdx_cons_succ, List.filter_cons, if_pos (by simpa using hne), eraseIdx_filter r j k (List.nodup_cons.1 hn).2 hk]
theorem map_erase {α β : Type} (f : α → β) : ∀ (l : List α) (j : Nat), (l.eraseIdx j).map f = (l.map f).eraseIdx j
  | [], _ => by simp
  | _ :: _, 0 => by simp
  | x :: r, j + 1 => by simp [map_erase f r j]
/-- Block B is a map that sends S's numbers, and none else, to true. -/
def MapS (w : World) (B : Nat) (S : List Int) : Prop :=
  ∃ es clock, w.heap[B]? = some (.map es clock) ∧ es.toList.map (fun e => (e.key, e.val)) = S.map (fun k => (Value.int .i64 k, Value.bool true))
variable {P : Program} {w : World} {B : Nat} {S : List Int} {T K E : TypeId}

theorem MapS.lt (h : MapS w B S) : B < w.heap.size := by
  obtain ⟨es, clock, hb, -⟩ := h
  exact (Array.getElem?_eq_some_iff.1 hb).1
theorem MapS.kept {w' : World} (h : MapS w B S) (hb : w'.heap[B]? = w.heap[B]?) : MapS w' B S := by
  obtain ⟨es, clock, h1, h2⟩ := h
  exact ⟨es, clock, hb.trans h1, h2⟩
theorem MapS.made (w : World) : MapS (w.alloc (.map #[] 0)) w.heap.size [] := ⟨#[], 0, heap_alloc_new w _, rfl⟩
theorem mapS_mem {es : Array MapEntry} (he : es.toList.map (fun e => (e.key, e.val)) = S.map (fun k => (Value.int .i64 k, Value.bool true))) {e : MapEntry} (hm : e ∈ es.toList) : ∃ x, x ∈ S ∧ e.key = .int .i64 x ∧ e.val = .bool true := by
  have : (e.key, e.val) ∈ es.toList.map (fun e => (e.key, e.val)) := List.mem_map.2 ⟨e, hm, rfl⟩
  rw [he] at this
  obtain ⟨x, hx, hxe⟩ := List.mem_map.1 this
  simp only [Prod.mk.injEq] at hxe
  exact ⟨x, hx, hxe.1.symm, hxe.2.symm⟩
theorem mapS_has {es : Array MapEntry} (he : es.toList.map (fun e => (e.key, e.val)) = S.map (fun k => (Value.int .i64 k, Value.bool true))) {x : Int} (hx : x ∈ S) : ∃ e, e ∈ es.toList ∧ e.key = .int .i64 x := by
  have : (Value.int .i64 x, Value.bool true) ∈ S.map (fun k => (Value.int .i64 k, Value.bool true)) := List.mem_map.2 ⟨x, hx, rfl⟩
  rw [← he] at this
  obtain ⟨e, hm, hxe⟩ := List.mem_map.1 this
  simp only [Prod.mk.injEq] at hxe
  exact ⟨e, hm, hxe.1⟩
theorem wf64 {k : Int} (h : -9223372036854775808 ≤ k ∧ k ≤ 9223372036854775807) : (Lit.int .i64 k).wf = true := by
  show (decide (IntKind.i64.min ≤ k) && decide (k ≤ IntKind.i64.max)) = true
  have e1 : IntKind.i64.min = -9223372036854775808 := by decide
  have e2 : IntKind.i64.max = 9223372036854775807 := by decide
  rw [e1, e2, decide_eq_true h.1, decide_eq_true h.2]
  rfl
theorem setBlock_heap (w : World) (b : Nat) (o : Obj) (h : b < w.heap.size) : (setBlock w b o).heap[b]? = some o := by
  simp [setBlock, h]
theorem setBlock_other (w : World) (b : Nat) (o : Obj) {j : Nat} (h : j ≠ b) : (setBlock w b o).heap[j]? = w.heap[j]? := by
  simp only [setBlock]
  rw [Array.getElem?_setIfInBounds_ne (Ne.symm h)]
theorem setBlock_below {X : Nat} {a w : World} (hB : X ≤ B) (h : Below X a w) (o : Obj) : Below X a (setBlock w B o) :=
  h.trans ⟨rfl, rfl, rfl, by simp [setBlock], fun k hk => setBlock_other w B o (by omega)⟩
theorem mapS_keys (hk : P.underlying K = some (.int .i64)) (hr : ∀ x ∈ S, -9223372036854775808 ≤ x ∧ x ≤ 9223372036854775807) {es : Array MapEntry} (he : es.toList.map (fun e => (e.key, e.val)) = S.map (fun k => (Value.int .i64 k, Value.bool true))) :
    ∀ e ∈ es.toList, ∃ l, keyOf P K e.key = some l := fun e hm => by
  obtain ⟨x, hx, hkx, -⟩ := mapS_mem he hm
  rw [hkx]
  exact ⟨_, keyOf_int_mk hk (wf64 (hr x hx))⟩
theorem MapS.update (h : MapS w B S) (ht : P.underlying T = some (.map K E)) (hk : P.underlying K = some (.int .i64)) (hr : ∀ x ∈ S, -9223372036854775808 ≤ x ∧ x ≤ 9223372036854775807) {k : Int} (hkr : -9223372036854775808 ≤ k ∧ k ≤ 9223372036854775807) (hn : k ∉ S) :
    ∃ w', (Instr.mapUpdate T (.map (some B)) (.int .i64 k) (.bool true)).run P w = .ok () w' ∧ MapS w' B (S ++ [k]) ∧ ∀ X a, X ≤ B → Below X a w → Below X a w' := by
  have hlt := h.lt
  obtain ⟨es, clock, hb, he⟩ := h
  have Kd := int_keyed hk
  have hkey := keyOf_int_mk hk (wf64 hkr)
  rcases Kd.find w hkey es.toList (mapS_keys hk hr he) with ⟨h1, h2⟩ | ⟨j, e0, h1, h2, h3⟩
  · refine ⟨setBlock w B (.map (es.push ⟨.int .i64 k, .bool true, clock⟩) (clock + 1)), ?_, ⟨_, _, setBlock_heap w B _ hlt, ?_⟩, fun X a hX hB => setBlock_below hX hB _⟩
    · simp [Instr.mapUpdate, run_underlying ht, MapKept.run_getObj_map hb, Kd.check w false hkey, h1, MapKept.run_setObj_map _ hb, Result.andThen, setBlock]
    · simp [he]
  · obtain ⟨x, hx, hkx, -⟩ := mapS_mem he (List.mem_of_getElem? h2)
    rw [h3] at hkx
    injection hkx with _ hkx
    exact absurd (hkx ▸ hx) hn
theorem MapS.delete (h : MapS w B S) (ht : P.underlying T = some (.map K E)) (hk : P.underlying K = some (.int .i64)) (hr : ∀ x ∈ S, -9223372036854775808 ≤ x ∧ x ≤ 9223372036854775807) (hnd : S.Nodup) {k : Int} (hkr : -9223372036854775808 ≤ k ∧ k ≤ 9223372036854775807) :
    ∃ w', (∀ ty, (Builtin.delete_ #[T, K] ty #[.map (some B), .int .i64 k]).run P w = .ok (.tuple #[]) w') ∧ MapS w' B (S.filter (fun x => x != k)) ∧ ∀ X a, X ≤ B → Below X a w → Below X a w' := by
  have hlt := h.lt
  obtain ⟨es, clock, hb, he⟩ := h
  have Kd := int_keyed hk
  have hkey := keyOf_int_mk hk (wf64 hkr)
  rcases Kd.find w hkey es.toList (mapS_keys hk hr he) with ⟨h1, h2⟩ | ⟨j, e0, h1, h2, h3⟩
  · refine ⟨setBlock w B (.map es clock), fun ty => ?_, ⟨_, _, setBlock_heap w B _ hlt, ?_⟩, fun X a hX hB => setBlock_below hX hB _⟩
    · simp [Builtin.delete_, run_underlying ht, MapKept.run_getObj_map hb, Kd.check w _ hkey, h1, MapKept.run_setObj_map _ hb, Result.andThen, setBlock]
    · rw [he, List.filter_eq_self.2]
      intro x hx
      simp only [bne_iff_ne, ne_eq]
      rintro rfl
      obtain ⟨e, hm, hke⟩ := mapS_has he hx
      exact h2 e hm hke
  · have hjl : j < es.toList.length := (List.getElem?_eq_some_iff.1 h2).1
    have hjs : j < es.size := by simpa using hjl
    have hsub : (es.eraseIdxIfInBounds j).toList = es.toList.eraseIdx j := by
      unfold Array.eraseIdxIfInBounds
      rw [dif_pos hjs]
      simp
    refine ⟨setBlock w B (.map (es.eraseIdxIfInBounds j) clock), fun ty => ?_, ⟨_, _, setBlock_heap w B _ hlt, ?_⟩, fun X a hX hB => setBlock_below hX hB _⟩
    · simp [Builtin.delete_, run_underlying ht, MapKept.run_getObj_map hb, Kd.check w _ hkey, h1, MapKept.run_setObj_map _ hb, Result.andThen, setBlock]
    · have hj : S[j]? = some k := by
        have h5 := congrArg (fun l : List (Value × Value) => l[j]?) he
        simp only [List.getElem?_map, h2, Option.map_some] at h5
        cases hS : S[j]? with
        | none => rw [hS] at h5; simp at h5
        | some y =>
          rw [hS] at h5
          simp only [Option.map_some, Option.some.injEq, Prod.mk.injEq] at h5
          have := h5.1
          rw [h3] at this
          injection this with _ this
          rw [this]
      rw [hsub, map_erase, he, ← map_erase, eraseIdx_filter S j k hnd hj]
theorem MapS.lookup (h : MapS w B S) (ht : P.underlying T = some (.map K E)) (hk : P.underlying K = some (.int .i64)) (hz : (zeroValue E).run P w = .ok (.bool false) w) (hr : ∀ x ∈ S, -9223372036854775808 ≤ x ∧ x ≤ 9223372036854775807) {k : Int} (hkr : -9223372036854775808 ≤ k ∧ k ≤ 9223372036854775807) :
    (Instr.lookup T (.map (some B)) (.int .i64 k) false).run P w = .ok (.bool (decide (k ∈ S))) w := by
  obtain ⟨es, clock, hb, he⟩ := h
  have Kd := int_keyed hk
  have hkey := keyOf_int_mk hk (wf64 hkr)
  rcases Kd.find w hkey es.toList (mapS_keys hk hr he) with ⟨h1, h2⟩ | ⟨j, e0, h1, h2, h3⟩
  · have hn : ¬ k ∈ S := fun hx => by
      obtain ⟨e, hm, hke⟩ := mapS_has he hx
      exact h2 e hm hke
    rw [decide_eq_false hn]
    simp [Instr.lookup, run_underlying ht, MapKept.run_getObj_map hb, Kd.check w _ hkey, h1, hz, Result.andThen]
  · obtain ⟨x, hx, hkx, hvx⟩ := mapS_mem he (List.mem_of_getElem? h2)
    rw [h3] at hkx
    injection hkx with _ hkx
    rw [decide_eq_true (hkx ▸ hx : k ∈ S)]
    simp [Instr.lookup, run_underlying ht, MapKept.run_getObj_map hb, Kd.check w _ hkey, h1, hvx, Result.andThen]
end Go.Proofs.YthmlibimhdeocaaDoor

end
