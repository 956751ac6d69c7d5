/- RowGen, RowL, RowY: what the law EntryCodes asks of it. -/
import Derived.Test.YtkfgnjdchnpjeaaDoorEoWWords
import Derived.Test.YtkfgnjdchnpjeaaDoorEoQDx0
import Derived.Test.YtkfgnjdchnpjeaaDoorEoCopyK
import Derived.Laws.IdiomCopy
import Derived.Shelf.Spec.SlicesInsert
import Derived.Lib.AppendZerosOnto
import Derived.Laws.NewBlocks
import Derived.Lib.SliceRun
section
namespace Go.Proofs.YtkfgnjdchnpjeaaDoor
open Go Go.RowKit Go.Proofs.YtkfgnjdchnpjeaaDoorW.PrintWords
set_option linter.unusedVariables false

/-- A row of cells, written from a place on. -/
def putL (cur : Array Value) : Nat → List Value → Array Value
  | _, [] => cur
  | o, v :: r => putL (cur.setIfInBounds o v) (o + 1) r
theorem setCells_blk {b : Nat} {e : TypeId} : ∀ (vs : List Value) (o : Nat) (w : World) (cur : Array Value), w.heap[b]? = some (.cells cur e (0, 0)) → (w.setCells b o vs).heap[b]? = some (.cells (putL cur o vs) e (0, 0))
  | [], _, _, _, h => h
  | v :: r, o, w, cur, h => by
    rw [World.setCells, putL]
    exact setCells_blk r (o + 1) _ _ (blk_set h o v)
theorem setCells_below {b B : Nat} {a : World} (hb : B ≤ b) : ∀ (vs : List Value) (o : Nat) (w : World), Below B a w → Below B a (w.setCells b o vs)
  | [], _, _, h => h
  | v :: r, o, w, h => by
    rw [World.setCells]
    exact setCells_below hb r (o + 1) _ (h.setCell hb v)
theorem setCells_far_ {g : Nat} : ∀ (vs : List Value) (o : Nat) {w : World} (k : Nat), k ≠ g → (w.setCells g o vs).heap[k]? = w.heap[k]?
  | [], _, _, _, _ => rfl
  | v :: r, o, w, k, h => by
    rw [World.setCells, setCells_far_ r (o + 1) k h]
    exact Below.heap_setCell w _ _ k h
theorem heap_alloc_other_ (w : World) (o : Obj) {q : Nat} (h : q < w.heap.size) : (w.alloc o).heap[q]? = w.heap[q]? := (below_alloc (Below.refl w.heap.size w) o).block q h
theorem putL_size : ∀ (vs : List Value) (o : Nat) (cur : Array Value), (putL cur o vs).size = cur.size
  | [], _, _ => rfl
  | v :: r, o, cur => by rw [putL, putL_size r]; simp
theorem putL_list : ∀ (vs : List Value) (o : Nat) (cur : Array Value), o + vs.length ≤ cur.size → (putL cur o vs).toList = cur.toList.take o ++ vs ++ cur.toList.drop (o + vs.length)
  | [], o, cur, _ => by simp [putL]
  | v :: r, o, cur, h => by
    simp only [List.length_cons] at h
    rw [putL, putL_list r (o + 1) _ (by simp <;> omega), Array.toList_setIfInBounds, List.length_cons]
    have hl : o < cur.toList.length := by simp <;> omega
    rw [List.take_set, List.drop_set, if_pos (by omega), List.take_add_one, List.getElem?_eq_getElem hl]
    rw [show ((some cur.toList[o]).toList : List Value) = [cur.toList[o]] from rfl]
    rw [List.set_append_right _ _ (by rw [List.length_take]; omega), List.length_take, Nat.min_eq_left (by omega), Nat.sub_self]
    simp [Nat.add_assoc, Nat.add_comm 1]
theorem splice_shift {α : Type} (a b v C : List α) (s : List α) (hC : C = a ++ b ++ s) (hs : v.length ≤ s.length) (X : List α) (hX : X = C.take (a.length + v.length) ++ b ++ C.drop (a.length + v.length + b.length)) :
    (X.take a.length ++ v ++ X.drop (a.length + v.length)).take (a.length + v.length + b.length) = a ++ v ++ b := by
  have h1 : X.take a.length = a := by
    rw [hX, List.append_assoc, List.take_append_of_le_length (by rw [List.length_take, hC]; simp <;> omega), List.take_take, Nat.min_eq_left (by omega), hC, List.append_assoc, List.take_left]
  have h2 : X.drop (a.length + v.length) = b ++ C.drop (a.length + v.length + b.length) := by
    rw [hX, List.append_assoc, List.drop_left' (by rw [List.length_take, hC]; simp <;> omega)]
  rw [h1, h2]
  rw [show a ++ v ++ (b ++ List.drop (a.length + v.length + b.length) C) = (a ++ v ++ b) ++ List.drop (a.length + v.length + b.length) C by simp]
  exact List.take_left' (by simp only [List.length_append])
theorem splice_grow {α : Type} (a b v s : List α) (hs : v.length + b.length ≤ s.length) (X : List α) (hX : X = (a ++ s).take a.length ++ v ++ (a ++ s).drop (a.length + v.length)) :
    (X.take (a.length + v.length) ++ b ++ X.drop (a.length + v.length + b.length)).take (a.length + v.length + b.length) = a ++ v ++ b := by
  have h1 : X.take (a.length + v.length) = a ++ v := by
    rw [hX, List.take_left, List.take_left' (by simp)]
  rw [h1]
  exact List.take_left' (by simp only [List.length_append])
end Go.Proofs.YtkfgnjdchnpjeaaDoor

end
section
namespace Go.Proofs.YtkfgnjdchnpjeaaDoor
open Go.RowKit Go.Shelf Go.Lib Go.Proofs.YtkfgnjdchnpjeaaDoor.QD Go.Proofs.YtkfgnjdchnpjeaaDoorW.PrintWords
set_option linter.unusedVariables false
set_option linter.unusedSimpArgs false

set_option maxRecDepth 100000 in
theorem sizeOfL : ∀ w, (Go.sizeOf 46).run Tryd.prog w = .ok 3 w := fun w => by rfl
/-- The cells of one. -/
def encL (x : S46) : List Value := [.int .i64 x.f0, .int .i64 x.f1, .string x.f2]
/-- All cells of messages. -/
def rowL (l : List S46) : List Value := l.flatMap encL
theorem rowL_len (l : List S46) : (rowL l).length = l.length * 3 := by
  induction l with
  | nil => rfl
  | cons x r ih =>
    have e : rowL (x :: r) = encL x ++ rowL r := rfl
    have e7 : (encL x).length = 3 := rfl
    rw [e, List.length_append, ih, e7, List.length_cons]
    omega
theorem rowL_reps {w : World} {base : Nat} {ok : Nat → Prop} (l : List S46) : Reps (k46.M w base ok) 3 l (rowL l) := by
  refine ⟨rowL_len l, ?_⟩
  induction l with
  | nil => intro j p hj; simp at hj
  | cons x r ih =>
    intro j p hj
    have e : rowL (x :: r) = encL x ++ rowL r := rfl
    have e7 : (encL x).length = 3 := rfl
    rw [e]
    cases j with
    | zero =>
      obtain rfl : x = p := by simpa using hj
      rw [Nat.zero_mul, List.drop_zero, List.take_left' e7]
      exact k46_mkM w base ok x
    | succ j =>
      rw [show (j + 1) * 3 = 3 + j * 3 by omega, ← List.drop_drop, List.drop_left' e7]
      exact ih j p (by simpa using hj)
theorem rowL_one (l : List S46) : ∀ u ∈ rowL l, u.oneCell' = true := by
  intro u hu
  obtain ⟨x, hx, hm⟩ := List.mem_flatMap.1 hu
  simp only [encL, List.mem_cons, List.not_mem_nil, or_false] at hm
  rcases hm with rfl | rfl | rfl <;> rfl
theorem one_row_L {w : World} {g : Nat} {m : S46} (hg : w.heap[g]? = some (.cells (encL m).toArray 46 (0, 0))) : Kd.C k46 w (some ⟨g, 0, none⟩) 1 [m] := by
  refine ⟨rfl, by omega, fun _ => ⟨_, rfl, fun j p hj => ?_⟩⟩
  cases j with
  | succ j => simp at hj
  | zero =>
    obtain rfl : m = p := by simpa using hj
    refine ⟨encL m, rfl, k46_mk w m, fun i u hi => ?_⟩
    rw [Addr.add_lit, blk_cell hg]
    simpa using hi
set_option maxHeartbeats 4000000 in
set_option maxRecDepth 100000 in
theorem ins_end_L (m : S46) (g : Nat) (l : List S46) (A : Option Addr) (c : Nat) (W0 w : World) (hR : Kd.R k46 46 w W0.heap.size (fun _ => True) (.slice A l.length c) l)
    (hg : w.heap[g]? = some (.cells (encL m).toArray 46 (0, 0))) (HB : Below W0.heap.size W0 w) (hl : l.length ≤ 1000000) :
    Calls Tryd.prog 63 #[.slice A l.length c, .int .i64 (l.length : Int), .slice (some ⟨g, 0, none⟩) 1 1] w fun e w' => ∃ v, e = .returned v ∧ Kd.R k46 46 w' W0.heap.size (fun _ => True) v (l ++ [m]) ∧ Below W0.heap.size W0 w' ∧ (∀ q, q < w.heap.size → some q ≠ (Value.slice A l.length c).ownBlock → w'.heap[q]? = w.heap[q]?) := by
  obtain ⟨n, hn⟩ : ∃ n, l.length = n := ⟨_, rfl⟩
  have hc : n ≤ c := by rw [← hn]; exact (Kd.R_reads' hR).2.1
  have n1 : n ≤ 1000000 := by omega
  have hOB : (Value.slice A l.length c).ownBlock = (Value.slice A n c).ownBlock := by cases A <;> rfl
  rw [hOB, hn]
  have HF := Lib.hid (And.intro hR (And.intro hg (And.intro HB (And.intro hl hn))))
  clear hR hg HB hl hn
  go_enter Tryd.func63, Tryd.ntmps63
  go_wp2_with (at_builtin; go_loud (refine Kd.R_append_rows k46 (Rr := k46.K w) (w0 := W0) W0.heap.size rfl (.tmp 23) (.tmp 24) 22 46 (.agg #[(.int .i64 0), (.int .i64 0), (.string ⟨#[]⟩)]) 32 rfl Tryd.underlying22 info46 rfl (by decide) (by omega) (.slice A n c) l [m] (some ⟨g, 0, none⟩) 1 1 (fun _ => True) (fun _ => False) rfl rfl ?aO ?aR ?aK (fun _ h => h.elim) ?aF ?aB ?aS ?aL ?_; (case aR => exact one_row_L HF.out.2.1); (case aK => intro x cs h; have e := k46_open h; subst e; exact k46_mkM _ _ _ x); (case aB => exact HF.out.2.2.1); (case aF => exact fun _ _ => trivial); (case aO => have h0 := HF.out.1; have hn := HF.out.2.2.2.2; rw [hn] at h0; exact h0); (case aS => exact HF.out.2.2.1.size); (case aL => have h4 := HF.out.2.2.2.1; omega); intro v2 w2 ho hb hg hat; have HO := Lib.hid ho; have HB2 := Lib.hid hb; have HG2 := Lib.hid hg; clear ho hb hg hat))
  all_goals (go_ret; exact ⟨_, rfl, HO.out, HB2.out, fun q h1 h2 => HG2.out.block q h1 (fun e => h2 (e.trans (by cases A <;> rfl)))⟩)
set_option maxHeartbeats 4000000 in
set_option maxRecDepth 100000 in
theorem ins_shift_L (b n c i vb : Nat) (cs vs : List Value) (w : World) (hi : i < n) (hroom : n + 1 ≤ c) (hc63 : c ≤ 9223372036854775807) (hn6 : n ≤ 1000000) (hvb : vb ≠ b) (hcl : cs.length = n * 3) (hvl : vs.length = 3)
    (hcs : ∀ j v, cs[j]? = some v → w.cell? ⟨b, j, none⟩ = some v) (hsp : ∀ j, j < (n + 1) * 3 → (w.cell? ⟨b, j, none⟩).isSome = true) (hfz : ∀ j, j < (n + 1) * 3 → w.frozen? ⟨b, j, none⟩ = false)
    (hvs : ∀ j v, vs[j]? = some v → w.cell? ⟨vb, j, none⟩ = some v) (h1c : ∀ v ∈ cs, v.oneCell' = true) (h1v : ∀ v ∈ vs, v.oneCell' = true)
    (tA tB : TypeId) (kA kB : Nat) (hsa : w.shape? vb = some (tA, kA)) (hsb : w.shape? b = some (tB, kB)) (hkB : kB ≠ 0) (hfa : w.frozen? ⟨vb, 0, none⟩ = false) (hfe : w.frozen? ⟨vb, kA, none⟩ = false) :
    Calls Tryd.prog 63 #[.slice (some ⟨b, 0, none⟩) n c, .int .i64 i, .slice (some ⟨vb, 0, none⟩) 1 1] w fun e w' =>
      e = .returned (.slice (some ⟨b, 0, none⟩) (n + 1) c) ∧ w' = (w.drew.setCells b ((i + 1) * 3) (cs.drop (i * 3))).setCells b (i * 3) vs := by
  have hsz : (Tryd.prog.info? 46).map (·.size) = some 3 := by kernel_rfl
  have hov : ∀ lb cb, (callFunc 77 #[.slice (some ⟨vb, 0, none⟩) 1 1, .slice (some ⟨b, (i + 1) * 3, none⟩) lb cb]).run Tryd.prog w = .ok (.value (.bool false)) w := fun lb cb => by
    rw [run_callFunc_extern Tryd.func77 (by kernel_rfl) (by kernel_rfl) (by kernel_rfl) (e := Extern.SlicesOverlaps.overlaps #[22, 22] #[4]) (by kernel_rfl),
      Lib.run_overlaps_apart w 22 4 46 Tryd.underlying22 3 sizeOfL ⟨vb, 0, none⟩ ⟨b, (i + 1) * 3, none⟩ 1 1 lb cb hvb tA tB kA kB hsa hsb hkB hfa hfe]
    rfl
  have hz2 : ¬ ((i : Int) = (n : Int)) := by omega
  have hi2 : (i : Int) < n := by omega
  have hr2 : ¬ (c : Int) < (n : Int) + 1 := by omega
  have mixed : Tryd.prog.follows Departure.mixedOrders = true := by kernel_rfl
  have hw1 : IntKind.i64.wrap ((i : Int) + 1) = (i : Int) + 1 := by rw [IntKind.wrap_i64]; omega
  have hb1 : (0 : Int) ≤ (i : Int) + 1 := by omega
  have hin : i ≤ n := by omega
  have htn : ((i : Int) + 1).toNat = i + 1 := by omega
  have hb2 : ¬ (c = i + 1) := by omega
  have hb3 : (i : Int) ≤ (n : Int) + 1 := by omega
  have hb4 : ¬ (c = i) := by omega
  have hb5 : (i : Int) + 1 ≤ (n : Int) + 1 := by omega
  have hdl : (cs.drop (i * 3)).length = (n - i) * 3 := by rw [List.length_drop, hcl]; omega
  have hcp1 : ∀ ty dc sc, (Builtin.copy_ #[22, 22] ty #[.slice (some ⟨b, (i + 1) * 3, none⟩) (n - i) dc, .slice (some ⟨b, i * 3, none⟩) (n + 1 - i) sc]).run Tryd.prog w.drew = .ok (goInt (n - i : Nat)) (w.drew.setCells b ((i + 1) * 3) (cs.drop (i * 3))) := fun ty dc sc =>
    run_copy_cellsK w.drew _ _ ty 46 3 b ((i + 1) * 3) (n - i) dc ⟨b, i * 3, none⟩ (n + 1 - i) sc (n - i) (cs.drop (i * 3)) Tryd.underlying22 hsz (by simp only [Nat.min_def]; split <;> omega) hdl
      (fun j v hj => by rw [Addr.add_lit]; exact hcs (i * 3 + j) v (by rwa [List.getElem?_drop] at hj))
      (fun j hj => hsp _ (by omega)) (fun j hj => hfz _ (by omega)) (fun v hv => h1c v (List.mem_of_mem_drop hv))
  obtain ⟨W1, hW1⟩ : ∃ W1, W1 = w.drew.setCells b ((i + 1) * 3) (cs.drop (i * 3)) := ⟨_, rfl⟩
  have hsp1 : ∀ k, k < (n + 1) * 3 → (W1.cell? ⟨b, k, none⟩).isSome = true := fun k hk => by
    rw [hW1]
    exact isSome_setCells b (cs.drop (i * 3)) ((i + 1) * 3) w.drew (fun j hj => hsp _ (by rw [hdl] at hj; omega)) k (hsp k hk)
  have hcp2 : ∀ (W : World), (∀ x, W.cell? x = W1.cell? x) → (∀ x, W.frozen? x = W1.frozen? x) → ∀ ty dc, (Builtin.copy_ #[22, 22] ty #[.slice (some ⟨b, i * 3, none⟩) (n + 1 - i) dc, .slice (some ⟨vb, 0, none⟩) 1 1]).run Tryd.prog W = .ok (goInt (1 : Nat)) (W.setCells b (i * 3) vs) := fun W hWc hWf ty dc =>
    run_copy_cellsK W _ _ ty 46 3 b (i * 3) (n + 1 - i) dc ⟨vb, 0, none⟩ 1 1 1 vs Tryd.underlying22 hsz (by simp only [Nat.min_def]; split <;> omega) hvl
      (fun j v hj => by
        rw [Addr.add_lit, hWc, hW1, World.cell?_setCells_out b _ _ _ _ (fun h _ => absurd h hvb), Nat.zero_add]
        exact hvs j v hj)
      (fun j hj => by rw [hWc]; exact hsp1 _ (by omega)) (fun j hj => by rw [hWf, hW1, World.frozen?_setCells]; exact hfz _ (by omega)) h1v
  rw [← hW1] at hcp1
  go_enter Tryd.func63, Tryd.ntmps63
  go_wp2_with (simp only [hov])
  go_region_law_o (refine step_copy_runI rfl _ _ 22 22 rfl _ _ (by simp [Act.eval, Act.put]) (by simp [Act.eval, Act.put]) (hcp1 _ _ _) ?_)
  go_wp2_with (at_builtin; refine wpList_copy_runI _ rfl _ _ 22 22 rfl _ _ rfl rfl (hcp2 _ (fun _ => rfl) (fun _ => rfl) _ _) ?_)
  go_ret
  first | exact ⟨rfl, rfl⟩ | exact ⟨rfl, by rw [hW1]⟩
def zL : Value := .agg #[(.int .i64 0), (.int .i64 0), (.string ⟨#[]⟩)]
set_option maxHeartbeats 4000000 in
set_option maxRecDepth 100000 in
theorem ins_grow_L (b n c i vb : Nat) (cs vs : List Value) (w : World) (hi : i < n) (hnc : n ≤ c) (hroom : c < n + 1) (hn6 : n ≤ 1000000) (hcl : cs.length = n * 3) (hvl : vs.length = 3)
    (hcs : ∀ j v, cs[j]? = some v → w.cell? ⟨b, j, none⟩ = some v)
    (hvs : ∀ j v, vs[j]? = some v → w.cell? ⟨vb, j, none⟩ = some v) (h1c : ∀ v ∈ cs, v.oneCell' = true) (h1v : ∀ v ∈ vs, v.oneCell' = true) :
    Calls Tryd.prog 63 #[.slice (some ⟨b, 0, none⟩) n c, .int .i64 i, .slice (some ⟨vb, 0, none⟩) 1 1] w fun e w' => ∃ G : Nat, n + 1 ≤ G ∧ G ≤ maxLen ∧
      e = .returned (.slice (some ⟨w.heap.size, 0, none⟩) (n + 1) G) ∧
      w' = (((w.alloc (.cells ((cs.take (i * 3)).toArray ++ Builtin.zeroCells zL.cells (n + 1 - i) ++ Builtin.zeroCells zL.cells (G - (n + 1))) 46)).drew.setCells w.heap.size (i * 3) vs).drew).setCells w.heap.size ((i + 1) * 3) (cs.drop (i * 3)) := by
  have mixed : Tryd.prog.follows Departure.mixedOrders = true := by kernel_rfl
  obtain ⟨i0, hi0, hzz⟩ := Option.map_eq_some_iff.1 info46
  simp only [Prod.mk.injEq] at hzz
  obtain ⟨hz0, hzs, hzb⟩ := hzz
  have hz0' : i0.zero = some zL := hz0
  have hz2 : ¬ ((i : Int) = (n : Int)) := by omega
  have hz3 : (c : Int) < (n : Int) + 1 := by omega
  have hsz : (Tryd.prog.info? 46).map (·.size) = some 3 := by kernel_rfl
  have hbw : b < w.heap.size := block_lt_of_cell (hcs 0 _ (List.getElem?_eq_getElem (by omega)))
  have hvw : vb < w.heap.size := block_lt_of_cell (hvs 0 _ (List.getElem?_eq_getElem (by omega)))
  have hkk : (n : Int) + 1 - (i : Int) = ((n + 1 - i : Nat) : Int) := by omega
  have hik : i + (n + 1 - i) = n + 1 := by omega
  have hold : (Builtin.firstCells i0.size i (.slice (some ⟨b, 0, none⟩) i c)).run Tryd.prog w.drew = .ok (cs.take (i * 3)).toArray w.drew := by
    rw [hzs]
    exact run_firstCells_some w.drew 3 i ⟨b, 0, none⟩ i c (cs.take (i * 3)) (by rw [List.length_take]; omega) (fun j v hj => by
      rw [Addr.add_lit]
      rw [List.getElem?_take] at hj
      split at hj
      · rw [Nat.zero_add]; exact hcs j v hj
      · cases hj)
  have hrz : ∀ ty, (Builtin.append_ #[22, 3] ty #[.slice (some ⟨b, 0, none⟩) i c, .int .i64 ((n : Int) + 1 - (i : Int))]).run Tryd.prog w =
      .ok (.slice (some ⟨w.heap.size, 0, none⟩) (n + 1) (grownCap w (n + 1) c 46)) (w.drew.alloc (.cells ((cs.take (i * 3)).toArray ++ Builtin.zeroCells zL.cells (n + 1 - i) ++ Builtin.zeroCells zL.cells (grownCap w (n + 1) c 46 - (n + 1))) 46)) := fun ty => by
    have h := Lib.run_append_grow_zeros w 22 3 ty 46 i0 _ .i64 .i64 Tryd.underlying22 Tryd.underlying3 hi0 hz0' (some ⟨b, 0, none⟩) i c (cs.take (i * 3)) hold (n + 1 - i) (by omega) (by omega) (by omega) (by omega) (by rw [hzb]; omega) (by rw [hzb, hik]; exact growslice_fits hroom (by omega))
    rw [hik] at h
    rw [hkk]
    exact h
  obtain ⟨G, hG⟩ : ∃ G, G = grownCap w (n + 1) c 46 := ⟨_, rfl⟩
  obtain ⟨ROW, hROW⟩ : ∃ ROW : Array Value, ROW = (cs.take (i * 3)).toArray ++ Builtin.zeroCells zL.cells (n + 1 - i) ++ Builtin.zeroCells zL.cells (G - (n + 1)) := ⟨_, rfl⟩
  rw [← hG] at hrz
  rw [← hROW] at hrz
  have hRl : (n + 1) * 3 ≤ ROW.size := by
    rw [hROW]
    simp [Builtin.zeroCells, Value.cells, zL, hcl]
    omega
  obtain ⟨W1, hW1⟩ : ∃ W1, W1 = w.drew.alloc (.cells ROW 46) := ⟨_, rfl⟩
  rw [← hW1] at hrz
  have hN : ∀ j, j < (n + 1) * 3 → (W1.cell? ⟨w.heap.size, j, none⟩).isSome = true := fun j hj => by
    rw [hW1, World.cell?_alloc_at (w := w.drew) ROW _ w.heap.size j rfl, Array.getElem?_eq_getElem (by omega)]; rfl
  have hNf : ∀ j, W1.frozen? ⟨w.heap.size, j, none⟩ = false := fun j => by rw [hW1]; exact World.frozen?_alloc_at (w := w.drew) ROW _ w.heap.size j rfl
  have hOb : ∀ j v, w.cell? ⟨b, j, none⟩ = some v → W1.cell? ⟨b, j, none⟩ = some v := fun j v h => by rw [hW1, World.cell?_alloc_past (w := w.drew) _ b j hbw]; exact h
  have hOv : ∀ j v, w.cell? ⟨vb, j, none⟩ = some v → W1.cell? ⟨vb, j, none⟩ = some v := fun j v h => by rw [hW1, World.cell?_alloc_past (w := w.drew) _ vb j hvw]; exact h
  have hcpA : ∀ (W : World), (∀ x, W.cell? x = W1.cell? x) → (∀ x, W.frozen? x = W1.frozen? x) → ∀ ty dc, (Builtin.copy_ #[22, 22] ty #[.slice (some ⟨w.heap.size, i * 3, none⟩) (n + 1 - i) dc, .slice (some ⟨vb, 0, none⟩) 1 1]).run Tryd.prog W = .ok (goInt (1 : Nat)) (W.setCells w.heap.size (i * 3) vs) := fun W hWc hWf ty dc =>
    run_copy_cellsK W _ _ ty 46 3 w.heap.size (i * 3) (n + 1 - i) dc ⟨vb, 0, none⟩ 1 1 1 vs Tryd.underlying22 hsz (by simp only [Nat.min_def]; split <;> omega) hvl
      (fun j v hj => by rw [Addr.add_lit, hWc, Nat.zero_add]; exact hOv _ v (hvs j v hj))
      (fun j hj => by rw [hWc]; exact hN _ (by omega)) (fun j hj => by rw [hWf]; exact hNf _) h1v
  have hGn : n + 1 ≤ G := by rw [hG]; exact grownCap_ge w _ _ _
  have hGm : G ≤ maxLen := by rw [hG]; exact grownCap_le_maxLen w (n + 1) c 46 (by unfold maxLen; omega)
  have hG63 : G ≤ 9223372036854775807 := by
    have := hGm
    unfold maxLen at this
    omega
  have hGi : ¬ (G = i) := by omega
  have hGim : ¬ (G = i + 1) := by omega
  have hci : ¬ (c = i) := by omega
  have hbN : b ≠ w.heap.size := by omega
  have hdl : (cs.drop (i * 3)).length = (n - i) * 3 := by rw [List.length_drop, hcl]; omega
  have hcpB : ∀ (W : World), (∀ x, W.cell? x = (W1.setCells w.heap.size (i * 3) vs).cell? x) → (∀ x, W.frozen? x = (W1.setCells w.heap.size (i * 3) vs).frozen? x) → ∀ ty dc sc, (Builtin.copy_ #[22, 22] ty #[.slice (some ⟨w.heap.size, (i + 1) * 3, none⟩) (n + 1 - (i + 1)) dc, .slice (some ⟨b, i * 3, none⟩) (n - i) sc]).run Tryd.prog W = .ok (goInt (n - i : Nat)) (W.setCells w.heap.size ((i + 1) * 3) (cs.drop (i * 3))) := fun W hWc hWf ty dc sc =>
    run_copy_cellsK W _ _ ty 46 3 w.heap.size ((i + 1) * 3) (n + 1 - (i + 1)) dc ⟨b, i * 3, none⟩ (n - i) sc (n - i) (cs.drop (i * 3)) Tryd.underlying22 hsz (by simp only [Nat.min_def]; split <;> omega) hdl
      (fun j v hj => by
        rw [Addr.add_lit, hWc, World.cell?_setCells_out _ _ _ _ _ (fun h _ => absurd h hbN)]
        exact hOb _ v (hcs (i * 3 + j) v (by rwa [List.getElem?_drop] at hj)))
      (fun j hj => by rw [hWc]; exact isSome_setCells _ _ _ _ (fun t ht => hN _ (by omega)) _ (hN _ (by omega)))
      (fun j hj => by rw [hWf, World.frozen?_setCells]; exact hNf _) (fun v hv => h1c v (List.mem_of_mem_drop hv))
  refine Calls.mono (R := fun e w' => e = .returned (.slice (some ⟨w.heap.size, 0, none⟩) (n + 1) G) ∧
      w' = (((w.alloc (.cells ROW 46)).drew.setCells w.heap.size (i * 3) vs).drew).setCells w.heap.size ((i + 1) * 3) (cs.drop (i * 3))) ?_ (by
    rintro e w' ⟨h1, h2⟩
    exact ⟨G, hGn, hGm, h1, by rw [h2, hROW]⟩)
  subst hW1
  have hE1 : ∀ x, ((w.alloc (.cells ROW 46)).drew).cell? x = (w.drew.alloc (.cells ROW 46)).cell? x := fun x => rfl
  have hE2 : ∀ x, ((w.alloc (.cells ROW 46)).drew).frozen? x = (w.drew.alloc (.cells ROW 46)).frozen? x := fun x => rfl
  have hF1 : ∀ x, (((w.alloc (.cells ROW 46)).drew.setCells w.heap.size (i * 3) vs).drew).cell? x = ((w.drew.alloc (.cells ROW 46)).setCells w.heap.size (i * 3) vs).cell? x := fun x => rfl
  have hF2 : ∀ x, (((w.alloc (.cells ROW 46)).drew.setCells w.heap.size (i * 3) vs).drew).frozen? x = ((w.drew.alloc (.cells ROW 46)).setCells w.heap.size (i * 3) vs).frozen? x := fun x => rfl
  have hw1 : IntKind.i64.wrap ((i : Int) + 1) = (i : Int) + 1 := by rw [IntKind.wrap_i64]; omega
  have hb1 : (0 : Int) ≤ (i : Int) + 1 := by omega
  have hin : i ≤ n := by omega
  have htn : ((i : Int) + 1).toNat = i + 1 := by omega
  have hb3 : (i : Int) ≤ (n : Int) := by omega
  have hb5 : (i : Int) + 1 ≤ (n : Int) + 1 := by omega
  clear hkk hik hold hROW hG hRl hz0 hz0' hzs hzb hi0
  go_enter Tryd.func63, Tryd.ntmps63
  go_wp2_with (first
    | (at_builtin; refine Lib.wpList_append_run _ rfl _ _ _ _ rfl _ _ rfl rfl _ _ (hrz _) ?_)
    | (at_builtin; refine wpList_copy_runI _ rfl _ _ 22 22 rfl _ _ rfl rfl (hcpA _ hE1 hE2 _ _) ?_)
    | (at_builtin; refine wpList_copy_runI _ rfl _ _ 22 22 rfl _ _ rfl rfl (hcpB _ (fun _ => rfl) (fun _ => rfl) _ _ _) ?_))
  go_region_law_o (refine step_copy_runI rfl _ _ 22 22 rfl (.slice (some ⟨w.heap.size, (i + 1) * 3, none⟩) (n + 1 - (i + 1)) (G - (i + 1))) (.slice (some ⟨b, i * 3, none⟩) (n - i) (c - i)) (by simp [Act.eval, Act.put]) (by simp [Act.eval, Act.put]) (hcpB _ hF1 hF2 3 (G - (i + 1)) (c - i)) ?_)
  go_wp2
  go_ret
  exact ⟨rfl, rfl⟩
theorem reps_row_L {w : World} : ∀ (l : List S46) (cs : List Value), Reps (k46.K w) 3 l cs → cs = rowL l
  | [], cs, h => by
    have := h.1
    simp at this
    rw [this]
    rfl
  | x :: r, cs, h => by
    have hl := h.1
    rw [List.length_cons] at hl
    have h0 := h.2 0 x rfl
    rw [Nat.zero_mul, List.drop_zero] at h0
    have e0 : cs.take 3 = encL x := k46_open h0
    have ih := reps_row_L r (cs.drop 3) ⟨by rw [List.length_drop, hl]; omega, fun j p hj => by
      have := h.2 (j + 1) p hj
      rw [show (j + 1) * 3 = 3 + j * 3 by omega, ← List.drop_drop] at this
      exact this⟩
    rw [show rowL (x :: r) = encL x ++ rowL r from rfl, ← e0, ← ih, List.take_append_drop]
theorem rowL_append (a b : List S46) : rowL (a ++ b) = rowL a ++ rowL b := by simp [rowL]
theorem rowL_take (l : List S46) (i : Nat) : (rowL l).take (i * 3) = rowL (l.take i) := by
  by_cases h : i ≤ l.length
  · conv => lhs; rw [← List.take_append_drop i l, rowL_append]
    exact List.take_left' (by rw [rowL_len, List.length_take]; omega)
  · rw [List.take_of_length_le (by rw [rowL_len]; omega), List.take_of_length_le (by omega)]
theorem rowL_drop (l : List S46) (i : Nat) : (rowL l).drop (i * 3) = rowL (l.drop i) := by
  by_cases h : i ≤ l.length
  · conv => lhs; rw [← List.take_append_drop i l, rowL_append]
    exact List.drop_left' (by rw [rowL_len, List.length_take]; omega)
  · rw [List.drop_eq_nil_of_le (by rw [rowL_len]; omega), List.drop_eq_nil_of_le (by omega)]
    rfl
theorem insert_len_L (l : List S46) (i : Nat) (m : S46) (hi : i ≤ l.length) : (l.take i ++ m :: l.drop i).length = l.length + 1 := by
  simp <;> omega
/-- Any row of one's own, out of its block's cells. -/
theorem R_of_blk_L {w : World} {base g n cap : Nat} {cur : Array Value} {l : List S46} (hb : base ≤ g) (hh : w.heap[g]? = some (.cells cur 46 (0, 0))) (hn : n = l.length) (hnc : n ≤ cap) (hm : cap ≤ maxLen) (hs : cur.size = cap * 3) (ht : cur.toList.take (n * 3) = rowL l) :
    Kd.R k46 46 w base (fun _ => True) (.slice (some ⟨g, 0, none⟩) n cap) l := by
  subst hn
  exact ⟨fun _ _ => trivial, rowL l, ⟨rowL_len l, .inr ⟨g, cap, cur, rfl, hb, hh, hnc, hm, hs, ht⟩⟩, rowL_reps l⟩
set_option maxHeartbeats 4000000 in
set_option maxRecDepth 100000 in
theorem ins_calls_L (m : S46) (g i : Nat) (l : List S46) (A : Option Addr) (c : Nat) (W0 w : World) (hR : Kd.R k46 46 w W0.heap.size (fun _ => True) (.slice A l.length c) l)
    (hg : w.heap[g]? = some (.cells (encL m).toArray 46 (0, 0))) (hgA : ∀ a, A = some a → g ≠ a.block) (HB : Below W0.heap.size W0 w) (hl : l.length ≤ 1000000) (hi : i ≤ l.length) :
    Calls Tryd.prog 63 #[.slice A l.length c, .int .i64 (i : Int), .slice (some ⟨g, 0, none⟩) 1 1] w fun e w' => ∃ v, e = .returned v ∧ Kd.R k46 46 w' W0.heap.size (fun _ => True) v (l.take i ++ m :: l.drop i) ∧ Below W0.heap.size W0 w' ∧ (∀ q, q < w.heap.size → some q ≠ (Value.slice A l.length c).ownBlock → w'.heap[q]? = w.heap[q]?) := by
  by_cases hin : i = l.length
  · subst hin
    rw [List.take_length, List.drop_length]
    exact ins_end_L m g l A c W0 w hR hg HB hl
  have hlt : i < l.length := by omega
  obtain ⟨h0, inner, ho, hr⟩ := hR
  obtain ⟨hil, hor⟩ := ho
  rcases hor with ⟨hnil, hz⟩ | ⟨b, cap, cur, he, hbase, hheap, hnc, hcap, hsz, htake⟩
  · omega
  injection he with e1 e2 e3
  subst e1
  subst e3
  have hgb : g ≠ b := hgA _ rfl
  have hrow : inner = rowL l := reps_row_L (w := w) l inner ⟨hr.1, fun j p hj => k46.K_of_M (hr.2 j p hj)⟩
  rw [hrow] at htake
  change cur.size = c * 3 at hsz
  change cur.toList.take (l.length * 3) = rowL l at htake
  have hbw : b < w.heap.size := blk_lt hheap
  have hWw : W0.heap.size ≤ w.heap.size := HB.size
  have hcs : ∀ j v, (rowL l)[j]? = some v → w.cell? ⟨b, j, none⟩ = some v := fun j v hj => by
    rw [blk_cell hheap]
    rw [← htake, List.getElem?_take] at hj
    split at hj
    · simpa using hj
    · cases hj
  have hvs : ∀ j v, (encL m)[j]? = some v → w.cell? ⟨g, j, none⟩ = some v := fun j v hj => by
    rw [blk_cell hg]
    simpa using hj
  have h1v : ∀ v ∈ encL m, v.oneCell' = true := fun v hv => rowL_one [m] v (by simpa [rowL] using hv)
  have e7 : (encL m).length = 3 := rfl
  have hA : (rowL (l.take i)).length = i * 3 := by rw [rowL_len, List.length_take]; omega
  have hB : (rowL (l.drop i)).length = (l.length - i) * 3 := by rw [rowL_len, List.length_drop]
  have hgoal : rowL (l.take i ++ m :: l.drop i) = rowL (l.take i) ++ encL m ++ rowL (l.drop i) := by
    rw [rowL_append, show rowL (m :: l.drop i) = encL m ++ rowL (l.drop i) from rfl, List.append_assoc]
  by_cases hroom : l.length + 1 ≤ c
  · have hsp : ∀ j, j < (l.length + 1) * 3 → (w.cell? ⟨b, j, none⟩).isSome = true := fun j hj => by
      rw [blk_cell hheap, Array.getElem?_eq_getElem (by omega)]
      rfl
    refine (ins_shift_L b l.length c i g (rowL l) (encL m) w hlt hroom (by unfold maxLen at hcap; omega) hl hgb (rowL_len l) e7 hcs hsp (fun j _ => blk_frozen hheap j) hvs (rowL_one l) h1v _ _ 3 cur.size (by unfold World.shape?; rw [hg]; rfl) (by unfold World.shape?; rw [hheap]) (by omega) (blk_frozen hg 0) (blk_frozen hg 3)).mono ?_
    rintro e w' ⟨rfl, rfl⟩
    have hh1 : w.drew.heap[b]? = some (.cells cur 46 (0, 0)) := hheap
    have hh2 := setCells_blk ((rowL l).drop (i * 3)) ((i + 1) * 3) w.drew cur hh1
    have hh3 := setCells_blk (encL m) (i * 3) _ _ hh2
    refine ⟨_, rfl, R_of_blk_L hbase hh3 (by rw [insert_len_L _ _ _ hi]) hroom hcap (by rw [putL_size, putL_size, hsz]) ?_, setCells_below hbase _ _ _ (setCells_below hbase _ _ _ HB.drew), fun q h1 h2 => by
      have h3 : q ≠ b := fun e => h2 (by rw [e]; rfl)
      rw [setCells_far_ _ _ q h3, setCells_far_ _ _ q h3]
      rfl⟩
    rw [rowL_drop]
    have hC : cur.toList = rowL (l.take i) ++ rowL (l.drop i) ++ cur.toList.drop (l.length * 3) := by
      rw [← rowL_append, List.take_append_drop, ← htake, List.take_append_drop]
    have hlen : cur.toList.length = c * 3 := by simpa using hsz
    rw [putL_list _ _ _ (by rw [putL_size, e7, hsz]; omega), putL_list _ _ _ (by rw [hB, hsz]; omega)]
    have hfin := splice_shift (rowL (l.take i)) (rowL (l.drop i)) (encL m) cur.toList _ hC (by rw [List.length_drop, hlen, e7]; omega) _ rfl
    rw [hA, hB, e7] at hfin
    rw [hB, e7]
    rw [hgoal, ← hfin]
    rw [show (i + 1) * 3 = i * 3 + 3 by omega, show (l.length + 1) * 3 = i * 3 + 3 + (l.length - i) * 3 by omega]
  · refine (ins_grow_L b l.length c i g (rowL l) (encL m) w hlt hnc (by omega) hl (rowL_len l) e7 hcs hvs (rowL_one l) h1v).mono ?_
    rintro e w' ⟨G, hG1, hG2, rfl, rfl⟩
    obtain ⟨ROW, hROW⟩ : ∃ ROW : Array Value, ROW = ((rowL l).take (i * 3)).toArray ++ Builtin.zeroCells zL.cells (l.length + 1 - i) ++ Builtin.zeroCells zL.cells (G - (l.length + 1)) := ⟨_, rfl⟩
    rw [← hROW]
    have hRs : ROW.size = G * 3 := by
      rw [hROW]
      simp [Builtin.zeroCells, Value.cells, zL, rowL_len]
      omega
    have hh1 : (w.alloc (.cells ROW 46)).drew.heap[w.heap.size]? = some (.cells ROW 46 (0, 0)) := heap_alloc_new w _
    have hh2 := setCells_blk (encL m) (i * 3) _ _ hh1
    have hh3 := setCells_blk ((rowL l).drop (i * 3)) ((i + 1) * 3) ((w.alloc (.cells ROW 46)).drew.setCells w.heap.size (i * 3) (encL m)).drew _ (blk_drew hh2)
    refine ⟨_, rfl, R_of_blk_L hWw hh3 (by rw [insert_len_L _ _ _ hi]) hG1 hG2 (by rw [putL_size, putL_size, hRs]) ?_, setCells_below hWw _ _ _ (Below.drew (setCells_below hWw _ _ _ (Below.drew (HB.alloc hWw _)))), fun q h1 h2 => by
      have h3 : q ≠ w.heap.size := by omega
      have h4 : (w.alloc (.cells ROW 46)).heap[q]? = w.heap[q]? := heap_alloc_other_ _ _ h1
      rw [setCells_far_ _ _ q h3]
      show ((w.alloc (.cells ROW 46)).drew.setCells w.heap.size (i * 3) (encL m)).heap[q]? = _
      rw [setCells_far_ _ _ q h3]
      exact h4⟩
    rw [rowL_drop]
    have hC : ROW.toList = rowL (l.take i) ++ (Builtin.zeroCells zL.cells (l.length + 1 - i) ++ Builtin.zeroCells zL.cells (G - (l.length + 1))).toList := by
      rw [hROW, rowL_take]; simp
    have hlen : ROW.toList.length = G * 3 := by simpa using hRs
    have hsl : (Builtin.zeroCells zL.cells (l.length + 1 - i) ++ Builtin.zeroCells zL.cells (G - (l.length + 1))).toList.length = G * 3 - i * 3 := by
      have := congrArg List.length hC
      rw [hlen, List.length_append, hA] at this
      omega
    rw [putL_list _ _ _ (by rw [putL_size, hB, hRs]; omega), putL_list _ _ _ (by rw [e7, hRs]; omega)]
    have hfin := splice_grow (rowL (l.take i)) (rowL (l.drop i)) (encL m) _ (by rw [hsl, e7, hB]; omega) _ rfl
    rw [hA, hB, e7, ← hC] at hfin
    rw [hB, e7]
    rw [hgoal, ← hfin]
    rw [show (i + 1) * 3 = i * 3 + 3 by omega, show (l.length + 1) * 3 = i * 3 + 3 + (l.length - i) * 3 by omega]
def put1L (x : S46) (v : Int) : S46 := ⟨x.f0, v, x.f2⟩
theorem rd_succL (x : S46) (r : List S46) (i : Nat) : rd_T46 (x :: r) ((i + 1 : Nat) : Int) = rd_T46 r (i : Int) := by
  unfold rd_T46
  rw [Int.toNat_natCast, Int.toNat_natCast]
  rfl
theorem rowL_set : ∀ (l : List S46) (i : Nat) (v : Int), i < l.length → (rowL l).set (i * 3 + 1) (.int .i64 v) = rowL (l.set i (put1L (rd_T46 l (i : Int)) v))
  | [], i, v, h => absurd h (Nat.not_lt_zero _)
  | x :: r, 0, v, _ => rfl
  | x :: r, i + 1, v, h => by
    have ih := rowL_set r i v (by simpa using h)
    rw [rd_succL, List.set_cons_succ, show rowL (x :: r.set i (put1L (rd_T46 r (i : Int)) v)) = encL x ++ rowL (r.set i (put1L (rd_T46 r (i : Int)) v)) from rfl, ← ih, show (i + 1) * 3 + 1 = (i * 3 + 1) + 3 by omega]
    rfl
theorem R_put_L {w : World} {base c : Nat} {A : Option Addr} {l : List S46} (hR : Kd.R k46 46 w base (fun _ => True) (.slice A l.length c) l) (i : Nat) (hi : i < l.length) :
    ∃ g, A = some ⟨g, 0, none⟩ ∧ base ≤ g ∧ g < w.heap.size ∧ w.cell? ⟨g, i * 3 + 1, none⟩ = some (.int .i64 (rd_T46 l (i : Int)).f1) ∧ w.frozen? ⟨g, i * 3 + 1, none⟩ = false ∧
      ∀ v : Int, Kd.R k46 46 (w.setCell ⟨g, i * 3 + 1, none⟩ (.int .i64 v)) base (fun _ => True) (.slice A l.length c) (l.set i (put1L (rd_T46 l (i : Int)) v)) := by
  obtain ⟨h0, inner, ho, hr⟩ := hR
  obtain ⟨hil, hor⟩ := ho
  rcases hor with ⟨hnil, hz⟩ | ⟨b, cap, cur, he, hbase, hheap, hnc, hcap, hsz, htake⟩
  · omega
  injection he with e1 e2 e3
  subst e1
  subst e3
  have hrow : inner = rowL l := reps_row_L (w := w) l inner ⟨hr.1, fun j p hj => k46.K_of_M (hr.2 j p hj)⟩
  rw [hrow] at htake
  change cur.size = c * 3 at hsz
  change cur.toList.take (l.length * 3) = rowL l at htake
  refine ⟨b, rfl, hbase, blk_lt hheap, ?_, blk_frozen hheap _, fun v => ?_⟩
  · rw [blk_cell hheap]
    have hc : (rowL l)[i * 3 + 1]? = some (.int .i64 (rd_T46 l (i : Int)).f1) := by
      have hs : ∀ (l : List S46) (i : Nat), i < l.length → (rowL l)[i * 3 + 1]? = some (.int .i64 (rd_T46 l (i : Int)).f1) := by
        intro l
        induction l with
        | nil => intro i h; exact absurd h (Nat.not_lt_zero _)
        | cons x r ih =>
          intro i h
          cases i with
          | zero => rfl
          | succ i =>
            rw [rd_succL, ← ih i (by simpa using h), show (i + 1) * 3 + 1 = (i * 3 + 1) + 3 by omega]
            rfl
      exact hs l i hi
    rw [← htake, List.getElem?_take] at hc
    split at hc
    · simpa using hc
    · cases hc
  · refine R_of_blk_L hbase (blk_set hheap (i * 3 + 1) (.int .i64 v)) (by simp) hnc hcap (by simpa using hsz) ?_
    rw [Array.toList_setIfInBounds, List.take_set, htake, rowL_set l i v hi]
end Go.Proofs.YtkfgnjdchnpjeaaDoor

end
section
namespace Go.Proofs.YtkfgnjdchnpjeaaDoor
open Go.RowKit Go.Shelf Go.Lib Go.Proofs.YtkfgnjdchnpjeaaDoor.QD Go.Proofs.YtkfgnjdchnpjeaaDoorW.PrintWords
set_option linter.unusedVariables false
set_option linter.unusedSimpArgs false

set_option maxRecDepth 100000 in
theorem sizeOfY : ∀ w, (Go.sizeOf 44).run Tryd.prog w = .ok 2 w := fun w => by rfl
/-- The cells of one. -/
def encY (x : S44) : List Value := [.string x.f0, .int .i64 x.f1]
/-- All cells of messages. -/
def rowY (l : List S44) : List Value := l.flatMap encY
theorem rowY_len (l : List S44) : (rowY l).length = l.length * 2 := by
  induction l with
  | nil => rfl
  | cons x r ih =>
    have e : rowY (x :: r) = encY x ++ rowY r := rfl
    have e7 : (encY x).length = 2 := rfl
    rw [e, List.length_append, ih, e7, List.length_cons]
    omega
theorem rowY_reps {w : World} {base : Nat} {ok : Nat → Prop} (l : List S44) : Reps (k44.M w base ok) 2 l (rowY l) := by
  refine ⟨rowY_len l, ?_⟩
  induction l with
  | nil => intro j p hj; simp at hj
  | cons x r ih =>
    intro j p hj
    have e : rowY (x :: r) = encY x ++ rowY r := rfl
    have e7 : (encY x).length = 2 := rfl
    rw [e]
    cases j with
    | zero =>
      obtain rfl : x = p := by simpa using hj
      rw [Nat.zero_mul, List.drop_zero, List.take_left' e7]
      exact k44_mkM w base ok x
    | succ j =>
      rw [show (j + 1) * 2 = 2 + j * 2 by omega, ← List.drop_drop, List.drop_left' e7]
      exact ih j p (by simpa using hj)
theorem rowY_one (l : List S44) : ∀ u ∈ rowY l, u.oneCell' = true := by
  intro u hu
  obtain ⟨x, hx, hm⟩ := List.mem_flatMap.1 hu
  simp only [encY, List.mem_cons, List.not_mem_nil, or_false] at hm
  rcases hm with rfl | rfl <;> rfl
theorem one_row_Y {w : World} {g : Nat} {m : S44} (hg : w.heap[g]? = some (.cells (encY m).toArray 44 (0, 0))) : Kd.C k44 w (some ⟨g, 0, none⟩) 1 [m] := by
  refine ⟨rfl, by omega, fun _ => ⟨_, rfl, fun j p hj => ?_⟩⟩
  cases j with
  | succ j => simp at hj
  | zero =>
    obtain rfl : m = p := by simpa using hj
    refine ⟨encY m, rfl, k44_mk w m, fun i u hi => ?_⟩
    rw [Addr.add_lit, blk_cell hg]
    simpa using hi
set_option maxHeartbeats 4000000 in
set_option maxRecDepth 100000 in
theorem ins_end_Y (m : S44) (g : Nat) (l : List S44) (A : Option Addr) (c : Nat) (W0 w : World) (hR : Kd.R k44 44 w W0.heap.size (fun _ => True) (.slice A l.length c) l)
    (hg : w.heap[g]? = some (.cells (encY m).toArray 44 (0, 0))) (HB : Below W0.heap.size W0 w) (hl : l.length ≤ 1000000) :
    Calls Tryd.prog 40 #[.slice A l.length c, .int .i64 (l.length : Int), .slice (some ⟨g, 0, none⟩) 1 1] w fun e w' => ∃ v, e = .returned v ∧ Kd.R k44 44 w' W0.heap.size (fun _ => True) v (l ++ [m]) ∧ Below W0.heap.size W0 w' ∧ (∀ q, q < w.heap.size → some q ≠ (Value.slice A l.length c).ownBlock → w'.heap[q]? = w.heap[q]?) := by
  obtain ⟨n, hn⟩ : ∃ n, l.length = n := ⟨_, rfl⟩
  have hc : n ≤ c := by rw [← hn]; exact (Kd.R_reads' hR).2.1
  have n1 : n ≤ 1000000 := by omega
  have hOB : (Value.slice A l.length c).ownBlock = (Value.slice A n c).ownBlock := by cases A <;> rfl
  rw [hOB, hn]
  have HF := Lib.hid (And.intro hR (And.intro hg (And.intro HB (And.intro hl hn))))
  clear hR hg HB hl hn
  go_enter Tryd.func40, Tryd.ntmps40
  go_wp2_with (at_builtin; go_loud (refine Kd.R_append_rows k44 (Rr := k44.K w) (w0 := W0) W0.heap.size rfl (.tmp 23) (.tmp 24) 31 44 (.agg #[(.string ⟨#[]⟩), (.int .i64 0)]) 24 rfl Tryd.underlying31 info44 rfl (by decide) (by omega) (.slice A n c) l [m] (some ⟨g, 0, none⟩) 1 1 (fun _ => True) (fun _ => False) rfl rfl ?aO ?aR ?aK (fun _ h => h.elim) ?aF ?aB ?aS ?aL ?_; (case aR => exact one_row_Y HF.out.2.1); (case aK => intro x cs h; have e := k44_open h; subst e; exact k44_mkM _ _ _ x); (case aB => exact HF.out.2.2.1); (case aF => exact fun _ _ => trivial); (case aO => have h0 := HF.out.1; have hn := HF.out.2.2.2.2; rw [hn] at h0; exact h0); (case aS => exact HF.out.2.2.1.size); (case aL => have h4 := HF.out.2.2.2.1; omega); intro v2 w2 ho hb hg hat; have HO := Lib.hid ho; have HB2 := Lib.hid hb; have HG2 := Lib.hid hg; clear ho hb hg hat))
  all_goals (go_ret; exact ⟨_, rfl, HO.out, HB2.out, fun q h1 h2 => HG2.out.block q h1 (fun e => h2 (e.trans (by cases A <;> rfl)))⟩)
set_option maxHeartbeats 4000000 in
set_option maxRecDepth 100000 in
theorem ins_shift_Y (b n c i vb : Nat) (cs vs : List Value) (w : World) (hi : i < n) (hroom : n + 1 ≤ c) (hc63 : c ≤ 9223372036854775807) (hn6 : n ≤ 1000000) (hvb : vb ≠ b) (hcl : cs.length = n * 2) (hvl : vs.length = 2)
    (hcs : ∀ j v, cs[j]? = some v → w.cell? ⟨b, j, none⟩ = some v) (hsp : ∀ j, j < (n + 1) * 2 → (w.cell? ⟨b, j, none⟩).isSome = true) (hfz : ∀ j, j < (n + 1) * 2 → w.frozen? ⟨b, j, none⟩ = false)
    (hvs : ∀ j v, vs[j]? = some v → w.cell? ⟨vb, j, none⟩ = some v) (h1c : ∀ v ∈ cs, v.oneCell' = true) (h1v : ∀ v ∈ vs, v.oneCell' = true)
    (tA tB : TypeId) (kA kB : Nat) (hsa : w.shape? vb = some (tA, kA)) (hsb : w.shape? b = some (tB, kB)) (hkB : kB ≠ 0) (hfa : w.frozen? ⟨vb, 0, none⟩ = false) (hfe : w.frozen? ⟨vb, kA, none⟩ = false) :
    Calls Tryd.prog 40 #[.slice (some ⟨b, 0, none⟩) n c, .int .i64 i, .slice (some ⟨vb, 0, none⟩) 1 1] w fun e w' =>
      e = .returned (.slice (some ⟨b, 0, none⟩) (n + 1) c) ∧ w' = (w.drew.setCells b ((i + 1) * 2) (cs.drop (i * 2))).setCells b (i * 2) vs := by
  have hsz : (Tryd.prog.info? 44).map (·.size) = some 2 := by kernel_rfl
  have hov : ∀ lb cb, (callFunc 59 #[.slice (some ⟨vb, 0, none⟩) 1 1, .slice (some ⟨b, (i + 1) * 2, none⟩) lb cb]).run Tryd.prog w = .ok (.value (.bool false)) w := fun lb cb => by
    rw [run_callFunc_extern Tryd.func59 (by kernel_rfl) (by kernel_rfl) (by kernel_rfl) (e := Extern.SlicesOverlaps.overlaps #[31, 31] #[4]) (by kernel_rfl),
      Lib.run_overlaps_apart w 31 4 44 Tryd.underlying31 2 sizeOfY ⟨vb, 0, none⟩ ⟨b, (i + 1) * 2, none⟩ 1 1 lb cb hvb tA tB kA kB hsa hsb hkB hfa hfe]
    rfl
  have hz2 : ¬ ((i : Int) = (n : Int)) := by omega
  have hi2 : (i : Int) < n := by omega
  have hr2 : ¬ (c : Int) < (n : Int) + 1 := by omega
  have mixed : Tryd.prog.follows Departure.mixedOrders = true := by kernel_rfl
  have hw1 : IntKind.i64.wrap ((i : Int) + 1) = (i : Int) + 1 := by rw [IntKind.wrap_i64]; omega
  have hb1 : (0 : Int) ≤ (i : Int) + 1 := by omega
  have hin : i ≤ n := by omega
  have htn : ((i : Int) + 1).toNat = i + 1 := by omega
  have hb2 : ¬ (c = i + 1) := by omega
  have hb3 : (i : Int) ≤ (n : Int) + 1 := by omega
  have hb4 : ¬ (c = i) := by omega
  have hb5 : (i : Int) + 1 ≤ (n : Int) + 1 := by omega
  have hdl : (cs.drop (i * 2)).length = (n - i) * 2 := by rw [List.length_drop, hcl]; omega
  have hcp1 : ∀ ty dc sc, (Builtin.copy_ #[31, 31] ty #[.slice (some ⟨b, (i + 1) * 2, none⟩) (n - i) dc, .slice (some ⟨b, i * 2, none⟩) (n + 1 - i) sc]).run Tryd.prog w.drew = .ok (goInt (n - i : Nat)) (w.drew.setCells b ((i + 1) * 2) (cs.drop (i * 2))) := fun ty dc sc =>
    run_copy_cellsK w.drew _ _ ty 44 2 b ((i + 1) * 2) (n - i) dc ⟨b, i * 2, none⟩ (n + 1 - i) sc (n - i) (cs.drop (i * 2)) Tryd.underlying31 hsz (by simp only [Nat.min_def]; split <;> omega) hdl
      (fun j v hj => by rw [Addr.add_lit]; exact hcs (i * 2 + j) v (by rwa [List.getElem?_drop] at hj))
      (fun j hj => hsp _ (by omega)) (fun j hj => hfz _ (by omega)) (fun v hv => h1c v (List.mem_of_mem_drop hv))
  obtain ⟨W1, hW1⟩ : ∃ W1, W1 = w.drew.setCells b ((i + 1) * 2) (cs.drop (i * 2)) := ⟨_, rfl⟩
  have hsp1 : ∀ k, k < (n + 1) * 2 → (W1.cell? ⟨b, k, none⟩).isSome = true := fun k hk => by
    rw [hW1]
    exact isSome_setCells b (cs.drop (i * 2)) ((i + 1) * 2) w.drew (fun j hj => hsp _ (by rw [hdl] at hj; omega)) k (hsp k hk)
  have hcp2 : ∀ (W : World), (∀ x, W.cell? x = W1.cell? x) → (∀ x, W.frozen? x = W1.frozen? x) → ∀ ty dc, (Builtin.copy_ #[31, 31] ty #[.slice (some ⟨b, i * 2, none⟩) (n + 1 - i) dc, .slice (some ⟨vb, 0, none⟩) 1 1]).run Tryd.prog W = .ok (goInt (1 : Nat)) (W.setCells b (i * 2) vs) := fun W hWc hWf ty dc =>
    run_copy_cellsK W _ _ ty 44 2 b (i * 2) (n + 1 - i) dc ⟨vb, 0, none⟩ 1 1 1 vs Tryd.underlying31 hsz (by simp only [Nat.min_def]; split <;> omega) hvl
      (fun j v hj => by
        rw [Addr.add_lit, hWc, hW1, World.cell?_setCells_out b _ _ _ _ (fun h _ => absurd h hvb), Nat.zero_add]
        exact hvs j v hj)
      (fun j hj => by rw [hWc]; exact hsp1 _ (by omega)) (fun j hj => by rw [hWf, hW1, World.frozen?_setCells]; exact hfz _ (by omega)) h1v
  rw [← hW1] at hcp1
  go_enter Tryd.func40, Tryd.ntmps40
  go_wp2_with (simp only [hov])
  go_region_law_o (refine step_copy_runI rfl _ _ 31 31 rfl _ _ (by simp [Act.eval, Act.put]) (by simp [Act.eval, Act.put]) (hcp1 _ _ _) ?_)
  go_wp2_with (at_builtin; refine wpList_copy_runI _ rfl _ _ 31 31 rfl _ _ rfl rfl (hcp2 _ (fun _ => rfl) (fun _ => rfl) _ _) ?_)
  go_ret
  first | exact ⟨rfl, rfl⟩ | exact ⟨rfl, by rw [hW1]⟩
def zY : Value := .agg #[(.string ⟨#[]⟩), (.int .i64 0)]
set_option maxHeartbeats 4000000 in
set_option maxRecDepth 100000 in
theorem ins_grow_Y (b n c i vb : Nat) (cs vs : List Value) (w : World) (hi : i < n) (hnc : n ≤ c) (hroom : c < n + 1) (hn6 : n ≤ 1000000) (hcl : cs.length = n * 2) (hvl : vs.length = 2)
    (hcs : ∀ j v, cs[j]? = some v → w.cell? ⟨b, j, none⟩ = some v)
    (hvs : ∀ j v, vs[j]? = some v → w.cell? ⟨vb, j, none⟩ = some v) (h1c : ∀ v ∈ cs, v.oneCell' = true) (h1v : ∀ v ∈ vs, v.oneCell' = true) :
    Calls Tryd.prog 40 #[.slice (some ⟨b, 0, none⟩) n c, .int .i64 i, .slice (some ⟨vb, 0, none⟩) 1 1] w fun e w' => ∃ G : Nat, n + 1 ≤ G ∧ G ≤ maxLen ∧
      e = .returned (.slice (some ⟨w.heap.size, 0, none⟩) (n + 1) G) ∧
      w' = (((w.alloc (.cells ((cs.take (i * 2)).toArray ++ Builtin.zeroCells zY.cells (n + 1 - i) ++ Builtin.zeroCells zY.cells (G - (n + 1))) 44)).drew.setCells w.heap.size (i * 2) vs).drew).setCells w.heap.size ((i + 1) * 2) (cs.drop (i * 2)) := by
  have mixed : Tryd.prog.follows Departure.mixedOrders = true := by kernel_rfl
  obtain ⟨i0, hi0, hzz⟩ := Option.map_eq_some_iff.1 info44
  simp only [Prod.mk.injEq] at hzz
  obtain ⟨hz0, hzs, hzb⟩ := hzz
  have hz0' : i0.zero = some zY := hz0
  have hz2 : ¬ ((i : Int) = (n : Int)) := by omega
  have hz3 : (c : Int) < (n : Int) + 1 := by omega
  have hsz : (Tryd.prog.info? 44).map (·.size) = some 2 := by kernel_rfl
  have hbw : b < w.heap.size := block_lt_of_cell (hcs 0 _ (List.getElem?_eq_getElem (by omega)))
  have hvw : vb < w.heap.size := block_lt_of_cell (hvs 0 _ (List.getElem?_eq_getElem (by omega)))
  have hkk : (n : Int) + 1 - (i : Int) = ((n + 1 - i : Nat) : Int) := by omega
  have hik : i + (n + 1 - i) = n + 1 := by omega
  have hold : (Builtin.firstCells i0.size i (.slice (some ⟨b, 0, none⟩) i c)).run Tryd.prog w.drew = .ok (cs.take (i * 2)).toArray w.drew := by
    rw [hzs]
    exact run_firstCells_some w.drew 2 i ⟨b, 0, none⟩ i c (cs.take (i * 2)) (by rw [List.length_take]; omega) (fun j v hj => by
      rw [Addr.add_lit]
      rw [List.getElem?_take] at hj
      split at hj
      · rw [Nat.zero_add]; exact hcs j v hj
      · cases hj)
  have hrz : ∀ ty, (Builtin.append_ #[31, 3] ty #[.slice (some ⟨b, 0, none⟩) i c, .int .i64 ((n : Int) + 1 - (i : Int))]).run Tryd.prog w =
      .ok (.slice (some ⟨w.heap.size, 0, none⟩) (n + 1) (grownCap w (n + 1) c 44)) (w.drew.alloc (.cells ((cs.take (i * 2)).toArray ++ Builtin.zeroCells zY.cells (n + 1 - i) ++ Builtin.zeroCells zY.cells (grownCap w (n + 1) c 44 - (n + 1))) 44)) := fun ty => by
    have h := Lib.run_append_grow_zeros w 31 3 ty 44 i0 _ .i64 .i64 Tryd.underlying31 Tryd.underlying3 hi0 hz0' (some ⟨b, 0, none⟩) i c (cs.take (i * 2)) hold (n + 1 - i) (by omega) (by omega) (by omega) (by omega) (by rw [hzb]; omega) (by rw [hzb, hik]; exact growslice_fits hroom (by omega))
    rw [hik] at h
    rw [hkk]
    exact h
  obtain ⟨G, hG⟩ : ∃ G, G = grownCap w (n + 1) c 44 := ⟨_, rfl⟩
  obtain ⟨ROW, hROW⟩ : ∃ ROW : Array Value, ROW = (cs.take (i * 2)).toArray ++ Builtin.zeroCells zY.cells (n + 1 - i) ++ Builtin.zeroCells zY.cells (G - (n + 1)) := ⟨_, rfl⟩
  rw [← hG] at hrz
  rw [← hROW] at hrz
  have hRl : (n + 1) * 2 ≤ ROW.size := by
    rw [hROW]
    simp [Builtin.zeroCells, Value.cells, zY, hcl]
    omega
  obtain ⟨W1, hW1⟩ : ∃ W1, W1 = w.drew.alloc (.cells ROW 44) := ⟨_, rfl⟩
  rw [← hW1] at hrz
  have hN : ∀ j, j < (n + 1) * 2 → (W1.cell? ⟨w.heap.size, j, none⟩).isSome = true := fun j hj => by
    rw [hW1, World.cell?_alloc_at (w := w.drew) ROW _ w.heap.size j rfl, Array.getElem?_eq_getElem (by omega)]; rfl
  have hNf : ∀ j, W1.frozen? ⟨w.heap.size, j, none⟩ = false := fun j => by rw [hW1]; exact World.frozen?_alloc_at (w := w.drew) ROW _ w.heap.size j rfl
  have hOb : ∀ j v, w.cell? ⟨b, j, none⟩ = some v → W1.cell? ⟨b, j, none⟩ = some v := fun j v h => by rw [hW1, World.cell?_alloc_past (w := w.drew) _ b j hbw]; exact h
  have hOv : ∀ j v, w.cell? ⟨vb, j, none⟩ = some v → W1.cell? ⟨vb, j, none⟩ = some v := fun j v h => by rw [hW1, World.cell?_alloc_past (w := w.drew) _ vb j hvw]; exact h
  have hcpA : ∀ (W : World), (∀ x, W.cell? x = W1.cell? x) → (∀ x, W.frozen? x = W1.frozen? x) → ∀ ty dc, (Builtin.copy_ #[31, 31] ty #[.slice (some ⟨w.heap.size, i * 2, none⟩) (n + 1 - i) dc, .slice (some ⟨vb, 0, none⟩) 1 1]).run Tryd.prog W = .ok (goInt (1 : Nat)) (W.setCells w.heap.size (i * 2) vs) := fun W hWc hWf ty dc =>
    run_copy_cellsK W _ _ ty 44 2 w.heap.size (i * 2) (n + 1 - i) dc ⟨vb, 0, none⟩ 1 1 1 vs Tryd.underlying31 hsz (by simp only [Nat.min_def]; split <;> omega) hvl
      (fun j v hj => by rw [Addr.add_lit, hWc, Nat.zero_add]; exact hOv _ v (hvs j v hj))
      (fun j hj => by rw [hWc]; exact hN _ (by omega)) (fun j hj => by rw [hWf]; exact hNf _) h1v
  have hGn : n + 1 ≤ G := by rw [hG]; exact grownCap_ge w _ _ _
  have hGm : G ≤ maxLen := by rw [hG]; exact grownCap_le_maxLen w (n + 1) c 44 (by unfold maxLen; omega)
  have hG63 : G ≤ 9223372036854775807 := by
    have := hGm
    unfold maxLen at this
    omega
  have hGi : ¬ (G = i) := by omega
  have hGim : ¬ (G = i + 1) := by omega
  have hci : ¬ (c = i) := by omega
  have hbN : b ≠ w.heap.size := by omega
  have hdl : (cs.drop (i * 2)).length = (n - i) * 2 := by rw [List.length_drop, hcl]; omega
  have hcpB : ∀ (W : World), (∀ x, W.cell? x = (W1.setCells w.heap.size (i * 2) vs).cell? x) → (∀ x, W.frozen? x = (W1.setCells w.heap.size (i * 2) vs).frozen? x) → ∀ ty dc sc, (Builtin.copy_ #[31, 31] ty #[.slice (some ⟨w.heap.size, (i + 1) * 2, none⟩) (n + 1 - (i + 1)) dc, .slice (some ⟨b, i * 2, none⟩) (n - i) sc]).run Tryd.prog W = .ok (goInt (n - i : Nat)) (W.setCells w.heap.size ((i + 1) * 2) (cs.drop (i * 2))) := fun W hWc hWf ty dc sc =>
    run_copy_cellsK W _ _ ty 44 2 w.heap.size ((i + 1) * 2) (n + 1 - (i + 1)) dc ⟨b, i * 2, none⟩ (n - i) sc (n - i) (cs.drop (i * 2)) Tryd.underlying31 hsz (by simp only [Nat.min_def]; split <;> omega) hdl
      (fun j v hj => by
        rw [Addr.add_lit, hWc, World.cell?_setCells_out _ _ _ _ _ (fun h _ => absurd h hbN)]
        exact hOb _ v (hcs (i * 2 + j) v (by rwa [List.getElem?_drop] at hj)))
      (fun j hj => by rw [hWc]; exact isSome_setCells _ _ _ _ (fun t ht => hN _ (by omega)) _ (hN _ (by omega)))
      (fun j hj => by rw [hWf, World.frozen?_setCells]; exact hNf _) (fun v hv => h1c v (List.mem_of_mem_drop hv))
  refine Calls.mono (R := fun e w' => e = .returned (.slice (some ⟨w.heap.size, 0, none⟩) (n + 1) G) ∧
      w' = (((w.alloc (.cells ROW 44)).drew.setCells w.heap.size (i * 2) vs).drew).setCells w.heap.size ((i + 1) * 2) (cs.drop (i * 2))) ?_ (by
    rintro e w' ⟨h1, h2⟩
    exact ⟨G, hGn, hGm, h1, by rw [h2, hROW]⟩)
  subst hW1
  have hE1 : ∀ x, ((w.alloc (.cells ROW 44)).drew).cell? x = (w.drew.alloc (.cells ROW 44)).cell? x := fun x => rfl
  have hE2 : ∀ x, ((w.alloc (.cells ROW 44)).drew).frozen? x = (w.drew.alloc (.cells ROW 44)).frozen? x := fun x => rfl
  have hF1 : ∀ x, (((w.alloc (.cells ROW 44)).drew.setCells w.heap.size (i * 2) vs).drew).cell? x = ((w.drew.alloc (.cells ROW 44)).setCells w.heap.size (i * 2) vs).cell? x := fun x => rfl
  have hF2 : ∀ x, (((w.alloc (.cells ROW 44)).drew.setCells w.heap.size (i * 2) vs).drew).frozen? x = ((w.drew.alloc (.cells ROW 44)).setCells w.heap.size (i * 2) vs).frozen? x := fun x => rfl
  have hw1 : IntKind.i64.wrap ((i : Int) + 1) = (i : Int) + 1 := by rw [IntKind.wrap_i64]; omega
  have hb1 : (0 : Int) ≤ (i : Int) + 1 := by omega
  have hin : i ≤ n := by omega
  have htn : ((i : Int) + 1).toNat = i + 1 := by omega
  have hb3 : (i : Int) ≤ (n : Int) := by omega
  have hb5 : (i : Int) + 1 ≤ (n : Int) + 1 := by omega
  clear hkk hik hold hROW hG hRl hz0 hz0' hzs hzb hi0
  go_enter Tryd.func40, Tryd.ntmps40
  go_wp2_with (first
    | (at_builtin; refine Lib.wpList_append_run _ rfl _ _ _ _ rfl _ _ rfl rfl _ _ (hrz _) ?_)
    | (at_builtin; refine wpList_copy_runI _ rfl _ _ 31 31 rfl _ _ rfl rfl (hcpA _ hE1 hE2 _ _) ?_)
    | (at_builtin; refine wpList_copy_runI _ rfl _ _ 31 31 rfl _ _ rfl rfl (hcpB _ (fun _ => rfl) (fun _ => rfl) _ _ _) ?_))
  go_region_law_o (refine step_copy_runI rfl _ _ 31 31 rfl (.slice (some ⟨w.heap.size, (i + 1) * 2, none⟩) (n + 1 - (i + 1)) (G - (i + 1))) (.slice (some ⟨b, i * 2, none⟩) (n - i) (c - i)) (by simp [Act.eval, Act.put]) (by simp [Act.eval, Act.put]) (hcpB _ hF1 hF2 3 (G - (i + 1)) (c - i)) ?_)
  go_wp2
  go_ret
  exact ⟨rfl, rfl⟩
theorem reps_row_Y {w : World} : ∀ (l : List S44) (cs : List Value), Reps (k44.K w) 2 l cs → cs = rowY l
  | [], cs, h => by
    have := h.1
    simp at this
    rw [this]
    rfl
  | x :: r, cs, h => by
    have hl := h.1
    rw [List.length_cons] at hl
    have h0 := h.2 0 x rfl
    rw [Nat.zero_mul, List.drop_zero] at h0
    have e0 : cs.take 2 = encY x := k44_open h0
    have ih := reps_row_Y r (cs.drop 2) ⟨by rw [List.length_drop, hl]; omega, fun j p hj => by
      have := h.2 (j + 1) p hj
      rw [show (j + 1) * 2 = 2 + j * 2 by omega, ← List.drop_drop] at this
      exact this⟩
    rw [show rowY (x :: r) = encY x ++ rowY r from rfl, ← e0, ← ih, List.take_append_drop]
theorem rowY_append (a b : List S44) : rowY (a ++ b) = rowY a ++ rowY b := by simp [rowY]
theorem rowY_take (l : List S44) (i : Nat) : (rowY l).take (i * 2) = rowY (l.take i) := by
  by_cases h : i ≤ l.length
  · conv => lhs; rw [← List.take_append_drop i l, rowY_append]
    exact List.take_left' (by rw [rowY_len, List.length_take]; omega)
  · rw [List.take_of_length_le (by rw [rowY_len]; omega), List.take_of_length_le (by omega)]
theorem rowY_drop (l : List S44) (i : Nat) : (rowY l).drop (i * 2) = rowY (l.drop i) := by
  by_cases h : i ≤ l.length
  · conv => lhs; rw [← List.take_append_drop i l, rowY_append]
    exact List.drop_left' (by rw [rowY_len, List.length_take]; omega)
  · rw [List.drop_eq_nil_of_le (by rw [rowY_len]; omega), List.drop_eq_nil_of_le (by omega)]
    rfl
theorem insert_len_Y (l : List S44) (i : Nat) (m : S44) (hi : i ≤ l.length) : (l.take i ++ m :: l.drop i).length = l.length + 1 := by
  simp <;> omega
/-- Any row of one's own, out of its block's cells. -/
theorem R_of_blk_Y {w : World} {base g n cap : Nat} {cur : Array Value} {l : List S44} (hb : base ≤ g) (hh : w.heap[g]? = some (.cells cur 44 (0, 0))) (hn : n = l.length) (hnc : n ≤ cap) (hm : cap ≤ maxLen) (hs : cur.size = cap * 2) (ht : cur.toList.take (n * 2) = rowY l) :
    Kd.R k44 44 w base (fun _ => True) (.slice (some ⟨g, 0, none⟩) n cap) l := by
  subst hn
  exact ⟨fun _ _ => trivial, rowY l, ⟨rowY_len l, .inr ⟨g, cap, cur, rfl, hb, hh, hnc, hm, hs, ht⟩⟩, rowY_reps l⟩
set_option maxHeartbeats 4000000 in
set_option maxRecDepth 100000 in
theorem ins_calls_Y (m : S44) (g i : Nat) (l : List S44) (A : Option Addr) (c : Nat) (W0 w : World) (hR : Kd.R k44 44 w W0.heap.size (fun _ => True) (.slice A l.length c) l)
    (hg : w.heap[g]? = some (.cells (encY m).toArray 44 (0, 0))) (hgA : ∀ a, A = some a → g ≠ a.block) (HB : Below W0.heap.size W0 w) (hl : l.length ≤ 1000000) (hi : i ≤ l.length) :
    Calls Tryd.prog 40 #[.slice A l.length c, .int .i64 (i : Int), .slice (some ⟨g, 0, none⟩) 1 1] w fun e w' => ∃ v, e = .returned v ∧ Kd.R k44 44 w' W0.heap.size (fun _ => True) v (l.take i ++ m :: l.drop i) ∧ Below W0.heap.size W0 w' ∧ (∀ q, q < w.heap.size → some q ≠ (Value.slice A l.length c).ownBlock → w'.heap[q]? = w.heap[q]?) := by
  by_cases hin : i = l.length
  · subst hin
    rw [List.take_length, List.drop_length]
    exact ins_end_Y m g l A c W0 w hR hg HB hl
  have hlt : i < l.length := by omega
  obtain ⟨h0, inner, ho, hr⟩ := hR
  obtain ⟨hil, hor⟩ := ho
  rcases hor with ⟨hnil, hz⟩ | ⟨b, cap, cur, he, hbase, hheap, hnc, hcap, hsz, htake⟩
  · omega
  injection he with e1 e2 e3
  subst e1
  subst e3
  have hgb : g ≠ b := hgA _ rfl
  have hrow : inner = rowY l := reps_row_Y (w := w) l inner ⟨hr.1, fun j p hj => k44.K_of_M (hr.2 j p hj)⟩
  rw [hrow] at htake
  change cur.size = c * 2 at hsz
  change cur.toList.take (l.length * 2) = rowY l at htake
  have hbw : b < w.heap.size := blk_lt hheap
  have hWw : W0.heap.size ≤ w.heap.size := HB.size
  have hcs : ∀ j v, (rowY l)[j]? = some v → w.cell? ⟨b, j, none⟩ = some v := fun j v hj => by
    rw [blk_cell hheap]
    rw [← htake, List.getElem?_take] at hj
    split at hj
    · simpa using hj
    · cases hj
  have hvs : ∀ j v, (encY m)[j]? = some v → w.cell? ⟨g, j, none⟩ = some v := fun j v hj => by
    rw [blk_cell hg]
    simpa using hj
  have h1v : ∀ v ∈ encY m, v.oneCell' = true := fun v hv => rowY_one [m] v (by simpa [rowY] using hv)
  have e7 : (encY m).length = 2 := rfl
  have hA : (rowY (l.take i)).length = i * 2 := by rw [rowY_len, List.length_take]; omega
  have hB : (rowY (l.drop i)).length = (l.length - i) * 2 := by rw [rowY_len, List.length_drop]
  have hgoal : rowY (l.take i ++ m :: l.drop i) = rowY (l.take i) ++ encY m ++ rowY (l.drop i) := by
    rw [rowY_append, show rowY (m :: l.drop i) = encY m ++ rowY (l.drop i) from rfl, List.append_assoc]
  by_cases hroom : l.length + 1 ≤ c
  · have hsp : ∀ j, j < (l.length + 1) * 2 → (w.cell? ⟨b, j, none⟩).isSome = true := fun j hj => by
      rw [blk_cell hheap, Array.getElem?_eq_getElem (by omega)]
      rfl
    refine (ins_shift_Y b l.length c i g (rowY l) (encY m) w hlt hroom (by unfold maxLen at hcap; omega) hl hgb (rowY_len l) e7 hcs hsp (fun j _ => blk_frozen hheap j) hvs (rowY_one l) h1v _ _ 2 cur.size (by unfold World.shape?; rw [hg]; rfl) (by unfold World.shape?; rw [hheap]) (by omega) (blk_frozen hg 0) (blk_frozen hg 2)).mono ?_
    rintro e w' ⟨rfl, rfl⟩
    have hh1 : w.drew.heap[b]? = some (.cells cur 44 (0, 0)) := hheap
    have hh2 := setCells_blk ((rowY l).drop (i * 2)) ((i + 1) * 2) w.drew cur hh1
    have hh3 := setCells_blk (encY m) (i * 2) _ _ hh2
    refine ⟨_, rfl, R_of_blk_Y hbase hh3 (by rw [insert_len_Y _ _ _ hi]) hroom hcap (by rw [putL_size, putL_size, hsz]) ?_, setCells_below hbase _ _ _ (setCells_below hbase _ _ _ HB.drew), fun q h1 h2 => by
      have h3 : q ≠ b := fun e => h2 (by rw [e]; rfl)
      rw [setCells_far_ _ _ q h3, setCells_far_ _ _ q h3]
      rfl⟩
    rw [rowY_drop]
    have hC : cur.toList = rowY (l.take i) ++ rowY (l.drop i) ++ cur.toList.drop (l.length * 2) := by
      rw [← rowY_append, List.take_append_drop, ← htake, List.take_append_drop]
    have hlen : cur.toList.length = c * 2 := by simpa using hsz
    rw [putL_list _ _ _ (by rw [putL_size, e7, hsz]; omega), putL_list _ _ _ (by rw [hB, hsz]; omega)]
    have hfin := splice_shift (rowY (l.take i)) (rowY (l.drop i)) (encY m) cur.toList _ hC (by rw [List.length_drop, hlen, e7]; omega) _ rfl
    rw [hA, hB, e7] at hfin
    rw [hB, e7]
    rw [hgoal, ← hfin]
    rw [show (i + 1) * 2 = i * 2 + 2 by omega, show (l.length + 1) * 2 = i * 2 + 2 + (l.length - i) * 2 by omega]
  · refine (ins_grow_Y b l.length c i g (rowY l) (encY m) w hlt hnc (by omega) hl (rowY_len l) e7 hcs hvs (rowY_one l) h1v).mono ?_
    rintro e w' ⟨G, hG1, hG2, rfl, rfl⟩
    obtain ⟨ROW, hROW⟩ : ∃ ROW : Array Value, ROW = ((rowY l).take (i * 2)).toArray ++ Builtin.zeroCells zY.cells (l.length + 1 - i) ++ Builtin.zeroCells zY.cells (G - (l.length + 1)) := ⟨_, rfl⟩
    rw [← hROW]
    have hRs : ROW.size = G * 2 := by
      rw [hROW]
      simp [Builtin.zeroCells, Value.cells, zY, rowY_len]
      omega
    have hh1 : (w.alloc (.cells ROW 44)).drew.heap[w.heap.size]? = some (.cells ROW 44 (0, 0)) := heap_alloc_new w _
    have hh2 := setCells_blk (encY m) (i * 2) _ _ hh1
    have hh3 := setCells_blk ((rowY l).drop (i * 2)) ((i + 1) * 2) ((w.alloc (.cells ROW 44)).drew.setCells w.heap.size (i * 2) (encY m)).drew _ (blk_drew hh2)
    refine ⟨_, rfl, R_of_blk_Y hWw hh3 (by rw [insert_len_Y _ _ _ hi]) hG1 hG2 (by rw [putL_size, putL_size, hRs]) ?_, setCells_below hWw _ _ _ (Below.drew (setCells_below hWw _ _ _ (Below.drew (HB.alloc hWw _)))), fun q h1 h2 => by
      have h3 : q ≠ w.heap.size := by omega
      have h4 : (w.alloc (.cells ROW 44)).heap[q]? = w.heap[q]? := heap_alloc_other_ _ _ h1
      rw [setCells_far_ _ _ q h3]
      show ((w.alloc (.cells ROW 44)).drew.setCells w.heap.size (i * 2) (encY m)).heap[q]? = _
      rw [setCells_far_ _ _ q h3]
      exact h4⟩
    rw [rowY_drop]
    have hC : ROW.toList = rowY (l.take i) ++ (Builtin.zeroCells zY.cells (l.length + 1 - i) ++ Builtin.zeroCells zY.cells (G - (l.length + 1))).toList := by
      rw [hROW, rowY_take]; simp
    have hlen : ROW.toList.length = G * 2 := by simpa using hRs
    have hsl : (Builtin.zeroCells zY.cells (l.length + 1 - i) ++ Builtin.zeroCells zY.cells (G - (l.length + 1))).toList.length = G * 2 - i * 2 := by
      have := congrArg List.length hC
      rw [hlen, List.length_append, hA] at this
      omega
    rw [putL_list _ _ _ (by rw [putL_size, hB, hRs]; omega), putL_list _ _ _ (by rw [e7, hRs]; omega)]
    have hfin := splice_grow (rowY (l.take i)) (rowY (l.drop i)) (encY m) _ (by rw [hsl, e7, hB]; omega) _ rfl
    rw [hA, hB, e7, ← hC] at hfin
    rw [hB, e7]
    rw [hgoal, ← hfin]
    rw [show (i + 1) * 2 = i * 2 + 2 by omega, show (l.length + 1) * 2 = i * 2 + 2 + (l.length - i) * 2 by omega]
def put1Y (x : S44) (v : Int) : S44 := ⟨x.f0, v⟩
theorem rd_succY (x : S44) (r : List S44) (i : Nat) : rd_T44 (x :: r) ((i + 1 : Nat) : Int) = rd_T44 r (i : Int) := by
  unfold rd_T44
  rw [Int.toNat_natCast, Int.toNat_natCast]
  rfl
theorem rowY_set : ∀ (l : List S44) (i : Nat) (v : Int), i < l.length → (rowY l).set (i * 2 + 1) (.int .i64 v) = rowY (l.set i (put1Y (rd_T44 l (i : Int)) v))
  | [], i, v, h => absurd h (Nat.not_lt_zero _)
  | x :: r, 0, v, _ => rfl
  | x :: r, i + 1, v, h => by
    have ih := rowY_set r i v (by simpa using h)
    rw [rd_succY, List.set_cons_succ, show rowY (x :: r.set i (put1Y (rd_T44 r (i : Int)) v)) = encY x ++ rowY (r.set i (put1Y (rd_T44 r (i : Int)) v)) from rfl, ← ih, show (i + 1) * 2 + 1 = (i * 2 + 1) + 2 by omega]
    rfl
theorem R_put_Y {w : World} {base c : Nat} {A : Option Addr} {l : List S44} (hR : Kd.R k44 44 w base (fun _ => True) (.slice A l.length c) l) (i : Nat) (hi : i < l.length) :
    ∃ g, A = some ⟨g, 0, none⟩ ∧ base ≤ g ∧ g < w.heap.size ∧ w.cell? ⟨g, i * 2 + 1, none⟩ = some (.int .i64 (rd_T44 l (i : Int)).f1) ∧ w.frozen? ⟨g, i * 2 + 1, none⟩ = false ∧
      ∀ v : Int, Kd.R k44 44 (w.setCell ⟨g, i * 2 + 1, none⟩ (.int .i64 v)) base (fun _ => True) (.slice A l.length c) (l.set i (put1Y (rd_T44 l (i : Int)) v)) := by
  obtain ⟨h0, inner, ho, hr⟩ := hR
  obtain ⟨hil, hor⟩ := ho
  rcases hor with ⟨hnil, hz⟩ | ⟨b, cap, cur, he, hbase, hheap, hnc, hcap, hsz, htake⟩
  · omega
  injection he with e1 e2 e3
  subst e1
  subst e3
  have hrow : inner = rowY l := reps_row_Y (w := w) l inner ⟨hr.1, fun j p hj => k44.K_of_M (hr.2 j p hj)⟩
  rw [hrow] at htake
  change cur.size = c * 2 at hsz
  change cur.toList.take (l.length * 2) = rowY l at htake
  refine ⟨b, rfl, hbase, blk_lt hheap, ?_, blk_frozen hheap _, fun v => ?_⟩
  · rw [blk_cell hheap]
    have hc : (rowY l)[i * 2 + 1]? = some (.int .i64 (rd_T44 l (i : Int)).f1) := by
      have hs : ∀ (l : List S44) (i : Nat), i < l.length → (rowY l)[i * 2 + 1]? = some (.int .i64 (rd_T44 l (i : Int)).f1) := by
        intro l
        induction l with
        | nil => intro i h; exact absurd h (Nat.not_lt_zero _)
        | cons x r ih =>
          intro i h
          cases i with
          | zero => rfl
          | succ i =>
            rw [rd_succY, ← ih i (by simpa using h), show (i + 1) * 2 + 1 = (i * 2 + 1) + 2 by omega]
            rfl
      exact hs l i hi
    rw [← htake, List.getElem?_take] at hc
    split at hc
    · simpa using hc
    · cases hc
  · refine R_of_blk_Y hbase (blk_set hheap (i * 2 + 1) (.int .i64 v)) (by simp) hnc hcap (by simpa using hsz) ?_
    rw [Array.toList_setIfInBounds, List.take_set, htake, rowY_set l i v hi]
end Go.Proofs.YtkfgnjdchnpjeaaDoor

end
