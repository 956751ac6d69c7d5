/- EntDel: what the law EntryCodes asks of it. -/
import Derived.Test.YtkfgnjdchnpjeaaDoorEoEntNet
namespace Go.Proofs.YtkfgnjdchnpjeaaDoor
open Go Go.RowKit Go.Shelf Go.Lib Go.Proofs.YtkfgnjdchnpjeaaDoor.QD Go.Proofs.YtkfgnjdchnpjeaaDoorW.PrintWords
set_option linter.unusedVariables false
set_option linter.unusedSimpArgs false

set_option maxRecDepth 100000 in
theorem net1_calls (W : World) (y : S46) : Calls Tryd.prog 43 #[.agg #[.int .i64 y.f0, .int .i64 y.f1, .string y.f2]] W fun e w' => e = .returned (.bool (decide (y.f1 = 0))) ∧ Below W.heap.size W w' := by
  have hu := Tryd.underlying46
  go_enter Tryd.func43, Tryd.ntmps43
  go_wp2
  go_ret
  have hb := below_alloc (Below.refl W.heap.size W) (.cells #[.int .i64 y.f0, .int .i64 y.f1, .string y.f2] 46)
  exact ⟨by first | rfl | (rw [show (y.f1 == 0) = decide (y.f1 = 0) from rfl]), ⟨hb.os, hb.tape, hb.output, hb.size, hb.block⟩⟩
/-- The place of the first leg of 0, or the row's length. -/
def zeroAt : List S46 → Nat
  | [] => 0
  | x :: r => if x.f1 = 0 then 0 else zeroAt r + 1
theorem zeroAt_le : ∀ l : List S46, zeroAt l ≤ l.length
  | [] => Nat.le_refl _
  | x :: r => by
    unfold zeroAt
    have := zeroAt_le r
    split <;> simp only [List.length_cons] <;> omega
theorem zeroAt_at : ∀ (l : List S46) (i : Nat), i < l.length → (∀ t : Nat, t < i → (rd_T46 l (t : Int)).f1 ≠ 0) → (rd_T46 l (i : Int)).f1 = 0 → zeroAt l = i
  | [], i, h, _, _ => absurd h (Nat.not_lt_zero _)
  | x :: r, 0, _, _, h => by
    unfold zeroAt
    rw [if_pos (by simpa [rd_T46] using h)]
  | x :: r, i + 1, hl, h1, h2 => by
    rw [rd_succL] at h2
    unfold zeroAt
    rw [if_neg (by simpa [rd_T46] using h1 0 (by omega)), zeroAt_at r i (by simpa using hl) (fun t ht => by have := h1 (t + 1) (by omega); rwa [rd_succL] at this) h2]
theorem zeroAt_none : ∀ (l : List S46), (∀ t : Nat, t < l.length → (rd_T46 l (t : Int)).f1 ≠ 0) → zeroAt l = l.length
  | [], _ => rfl
  | x :: r, h => by
    unfold zeroAt
    rw [if_neg (by simpa [rd_T46] using h 0 (by simp)), zeroAt_none r (fun t ht => by have := h (t + 1) (by simpa using ht); rwa [rd_succL] at this)]
    rfl
set_option maxHeartbeats 4000000 in
set_option maxRecDepth 100000 in
theorem idx_L (A : Option Addr) (c : Nat) (l : List S46) (w : World) (hC : Kd.C k46 w A l.length l) (hl : l.length ≤ 1000000) :
    Calls Tryd.prog 64 #[.slice A l.length c, .func (.func 43) #[] #[]] w fun e w' =>
      e = .returned (.int .i64 (if zeroAt l = l.length then (-1 : Int) else (zeroAt l : Nat))) ∧ Below w.heap.size w w' := by
  have hu := Tryd.underlying46
  have HC := Lib.hid hC
  clear hC
  obtain ⟨res, hres⟩ : ∃ res, (if zeroAt l = l.length then (-1 : Int) else (zeroAt l : Nat)) = res := ⟨_, rfl⟩
  rw [hres]
  have HRES := Lib.hid hres
  clear hres
  go_enter Tryd.func64, Tryd.ntmps64
  go_wp2
  go_loopw [8] (fun v8 wr => ∃ i : Nat, v8 = .int .i64 i ∧ Hid (i ≤ l.length ∧ (∀ t : Nat, t < i → (rd_T46 l (t : Int)).f1 ≠ 0) ∧ Below w.heap.size w wr)) (fun v8 _ => l.length - (RowKit.intOf v8).toNat)
  case atStart => exact ⟨0, rfl, Lib.hid ⟨by omega, fun t ht => absurd ht (Nat.not_lt_zero _), Below.refl _ _⟩⟩
  case round =>
    obtain ⟨i, rfl, hh⟩ := hrel
    obtain ⟨hil, hR, hb⟩ := hh.out
    clear hh
    have HB := Lib.hid (And.intro hb hR)
    clear hb hR
    by_cases hlt : i < l.length
    · obtain ⟨ad, ead, hx0, hx1, hx2⟩ := at_T46 (Kd.C_below HC.out HB.out.1) (i : Int) (by omega) (by omega)
      obtain ⟨x, hx⟩ : ∃ x, rd_T46 l (i : Int) = x := ⟨_, rfl⟩
      rw [hx] at hx0 hx1 hx2
      have HX := Lib.hid hx
      clear hx
      rw [Int.toNat_natCast] at hx0 hx1 hx2
      cases ead
      have hi0 : (0 : Int) ≤ (i : Int) := by omega
      have hi1 : (i : Int) < (l.length : Int) := by omega
      have hw1 : IntKind.i64.wrap ((i : Int) + 1) = (i : Int) + 1 := by rw [IntKind.wrap_i64]; omega
      by_cases hz : x.f1 = 0
      · have hzb : decide (x.f1 = 0) = true := decide_eq_true hz
        have HZ := Lib.hid (And.intro hz hzb)
        clear hz hzb
        go_wp2_with (first
          | (go_at_call 43; go_loud (refine (net1_calls _ x).mono ?_; rintro e' w2 ⟨he2, hb_⟩; rw [HZ.out.2] at he2; subst he2; have hb2 := below_then HB.out.1 HB.out.1.size hb_; have HB2 := Lib.hid hb2; clear hb_ hb2)))
        go_ret
        have hz0 := zeroAt_at l i hlt HB.out.2 (by rw [HX.out]; exact HZ.out.1)
        exact ⟨by rw [← HRES.out, hz0, if_neg (by omega)]; rfl, HB2.out⟩
      · have hzb : decide (x.f1 = 0) = false := decide_eq_false hz
        have HZ := Lib.hid (And.intro hz hzb)
        clear hz hzb
        go_wp2_with (first
          | (go_at_call 43; go_loud (refine (net1_calls _ x).mono ?_; rintro e' w2 ⟨he2, hb_⟩; rw [HZ.out.2] at he2; subst he2; have hb2 := below_then HB.out.1 HB.out.1.size hb_; have HB2 := Lib.hid hb2; clear hb_ hb2)))
        refine ⟨⟨i + 1, ?_, Lib.hid ⟨by omega, fun t ht => ?_, HB2.out⟩⟩, ?_⟩
        · rw [show ((i : Int) + 1) = ((i + 1 : Nat) : Int) by omega]
        · rcases Nat.lt_succ_iff_lt_or_eq.1 ht with h | h
          · exact HB.out.2 t h
          · subst h
            rw [HX.out]
            exact HZ.out.1
        · show l.length - ((i : Int) + 1).toNat < l.length - (i : Int).toNat
          omega
    · have hi : i = l.length := by omega
      subst hi
      have hge : ¬ ((l.length : Int) < (l.length : Int)) := by omega
      go_wp2
      go_ret
      exact ⟨by rw [← HRES.out, if_pos (zeroAt_none l HB.out.2)]; rfl, HB.out.1⟩
def keepL (l : List S46) : List S46 := l.filter fun x => !decide (x.f1 = 0)
theorem keep_all : ∀ l : List S46, zeroAt l = l.length → keepL l = l
  | [], _ => rfl
  | x :: r, h => by
    unfold zeroAt at h
    split at h
    · simp at h
    · next hx =>
      simp only [List.length_cons] at h
      have ih := keep_all r (by omega)
      unfold keepL at ih ⊢
      rw [List.filter_cons, if_pos (by simpa using hx), ih]
theorem keep_start : ∀ l : List S46, zeroAt l < l.length → l.take (zeroAt l) = keepL (l.take (zeroAt l + 1))
  | [], h => absurd h (Nat.not_lt_zero _)
  | x :: r, h => by
    unfold zeroAt at h ⊢
    split
    · next hx =>
      simp [keepL, hx]
    · next hx =>
      rw [if_neg hx] at h
      simp only [List.length_cons] at h
      have ih := keep_start r (by omega)
      rw [List.take_succ_cons, List.take_succ_cons, ih]
      unfold keepL
      rw [List.filter_cons, if_pos (by simpa using hx)]
theorem keep_succ (l : List S46) (j : Nat) (hj : j < l.length) : keepL (l.take (j + 1)) = if (rd_T46 l (j : Int)).f1 = 0 then keepL (l.take j) else keepL (l.take j) ++ [rd_T46 l (j : Int)] := by
  rw [take_rdL l j hj]
  unfold keepL
  rw [List.filter_append]
  split
  · next h => simp [h]
  · next h => simp [h]
theorem rowL_setS : ∀ (l : List S46) (i : Nat) (x : S46), i < l.length → (((rowL l).set (i * 3) (.int .i64 x.f0)).set (i * 3 + 1) (.int .i64 x.f1)).set (i * 3 + 2) (.string x.f2) = rowL (l.set i x)
  | [], i, v, h => absurd h (Nat.not_lt_zero _)
  | y :: r, 0, x, _ => rfl
  | y :: r, i + 1, x, h => by
    have ih := rowL_setS r i x (by simpa using h)
    rw [List.set_cons_succ, show rowL (y :: r.set i x) = encL y ++ rowL (r.set i x) from rfl, ← ih, show (i + 1) * 3 + 1 = (i * 3 + 1) + 3 by omega, show (i + 1) * 3 + 2 = (i * 3 + 2) + 3 by omega, show (i + 1) * 3 = (i * 3) + 3 by omega]
    rfl
/-- A whole leg written over another one. -/
theorem R_putS_L {w : World} {base c : Nat} {A : Option Addr} {l : List S46} (hR : Kd.R k46 46 w base (fun _ => True) (.slice A l.length c) l) (i : Nat) (hi : i < l.length) :
    ∃ g, A = some ⟨g, 0, none⟩ ∧ base ≤ g ∧ g < w.heap.size ∧ (∀ j, w.frozen? ⟨g, j, none⟩ = false) ∧
      ∀ x : S46, Kd.R k46 46 (((w.setCell ⟨g, i * 3, none⟩ (.int .i64 x.f0)).setCell ⟨g, i * 3 + 1, none⟩ (.int .i64 x.f1)).setCell ⟨g, i * 3 + 2, none⟩ (.string x.f2)) base (fun _ => True) (.slice A l.length c) (l.set i x) := by
  obtain ⟨h0, inner, ho, hr⟩ := hR
  obtain ⟨hil, hor⟩ := ho
  rcases hor with ⟨hnil, hz⟩ | ⟨b, cap, cur, he, hbase, hheap, hnc, hcap, hsz, htake⟩
  · omega
  injection he with e1 e2 e3
  subst e1
  subst e3
  have hrow : inner = rowL l := reps_row_L (w := w) l inner ⟨hr.1, fun j p hj => k46.K_of_M (hr.2 j p hj)⟩
  rw [hrow] at htake
  change cur.size = c * 3 at hsz
  change cur.toList.take (l.length * 3) = rowL l at htake
  refine ⟨b, rfl, hbase, blk_lt hheap, fun j => blk_frozen hheap _, fun x => ?_⟩
  refine R_of_blk_L hbase (blk_set (blk_set (blk_set hheap (i * 3) (.int .i64 x.f0)) (i * 3 + 1) (.int .i64 x.f1)) (i * 3 + 2) (.string x.f2)) (by simp) hnc hcap (by simpa using hsz) ?_
  rw [Array.toList_setIfInBounds, Array.toList_setIfInBounds, Array.toList_setIfInBounds, List.take_set, List.take_set, List.take_set, htake, rowL_setS l i x hi]
theorem R_putS2_L {w : World} {base c : Nat} {A : Option Addr} {l : List S46} {n : Nat} (hR : Kd.R k46 46 w base (fun _ => True) (.slice A n c) l) (i : Nat) (hn : l.length = n) (hi : i < n) :
    ∃ g, A = some ⟨g, 0, none⟩ ∧ base ≤ g ∧ g < w.heap.size ∧ w.cell? ⟨g, i * 3, none⟩ = some (.int .i64 (rd_T46 l (i : Int)).f0) ∧ w.cell? ⟨g, i * 3 + 1, none⟩ = some (.int .i64 (rd_T46 l (i : Int)).f1) ∧ w.cell? ⟨g, i * 3 + 2, none⟩ = some (.string (rd_T46 l (i : Int)).f2) ∧
      w.frozen? ⟨g, i * 3, none⟩ = false ∧ w.frozen? ⟨g, i * 3 + 1, none⟩ = false ∧ w.frozen? ⟨g, i * 3 + 2, none⟩ = false ∧
      ∀ x : S46, Kd.R k46 46 (((w.setCell ⟨g, i * 3, none⟩ (.int .i64 x.f0)).setCell ⟨g, i * 3 + 1, none⟩ (.int .i64 x.f1)).setCell ⟨g, i * 3 + 2, none⟩ (.string x.f2)) base (fun _ => True) (.slice A n c) (l.set i x) := by
  subst hn
  obtain ⟨g, eg, h1, h2, hf, hp⟩ := R_putS_L hR i hi
  obtain ⟨ad, ead, y0, y1, y2⟩ := at_T46 (Kd.R_reads' hR).2.2 (i : Int) (by omega) (by omega)
  subst eg
  injection ead with ead
  subst ead
  rw [Int.toNat_natCast] at y0 y1 y2
  rw [Addr.add_lit, Nat.zero_add] at y0 y1 y2
  exact ⟨g, rfl, h1, h2, y0, y1, y2, hf _, hf _, hf _, hp⟩
/-- The row's beginning, whatever stands behind it. -/
theorem R_cut_L {w : World} {base c : Nat} {A : Option Addr} {l : List S46} (hR : Kd.R k46 46 w base (fun _ => True) (.slice A l.length c) l) (i : Nat) (hi : i ≤ l.length) (hl : 0 < l.length) :
    ∃ g, A = some ⟨g, 0, none⟩ ∧ base ≤ g ∧ g < w.heap.size ∧ (∀ j, w.frozen? ⟨g, j, none⟩ = false) ∧ (∀ j, j < l.length * 3 → (w.cell? ⟨g, j, none⟩).isSome = true) ∧
      ∀ (vs : List Value), i * 3 + vs.length ≤ l.length * 3 → Kd.R k46 46 (w.setCells g (i * 3) vs) base (fun _ => True) (.slice A i c) (l.take i) := by
  obtain ⟨h0, inner, ho, hr⟩ := hR
  obtain ⟨hil, hor⟩ := ho
  rcases hor with ⟨hnil, hz⟩ | ⟨b, cap, cur, he, hbase, hheap, hnc, hcap, hsz, htake⟩
  · omega
  injection he with e1 e2 e3
  subst e1
  subst e3
  have hrow : inner = rowL l := reps_row_L (w := w) l inner ⟨hr.1, fun j p hj => k46.K_of_M (hr.2 j p hj)⟩
  rw [hrow] at htake
  change cur.size = c * 3 at hsz
  change cur.toList.take (l.length * 3) = rowL l at htake
  refine ⟨b, rfl, hbase, blk_lt hheap, fun j => blk_frozen hheap _, fun j hj => ?_, fun vs hv => ?_⟩
  · rw [blk_cell hheap, Array.getElem?_eq_getElem (by omega)]
    rfl
  · refine R_of_blk_L hbase (setCells_blk vs (i * 3) w cur hheap) (by simp <;> omega) (by omega) hcap (by rw [putL_size]; exact hsz) ?_
    rw [putL_list _ _ _ (by omega), List.append_assoc, List.take_append_of_le_length (by rw [List.length_take, Array.length_toList]; omega), List.take_take, Nat.min_self, ← rowL_take, ← htake, List.take_take, Nat.min_eq_left (by omega)]
theorem run_clear_sliceK (w : World) (t e : TypeId) (z : Value) (k : Nat) (ht : Tryd.prog.underlying t = some (.slice e)) (hv : ∀ w, (zeroValue e).run Tryd.prog w = .ok z w) (hz : z.cells.size = k) (hk : 0 < k) (h1 : ∀ v ∈ z.cells, v.oneCell' = true) (b o n c : Nat) (hn : 0 < n)
    (hc : ∀ j, j < n * k → (w.cell? ⟨b, o + j, none⟩).isSome = true) (hf : ∀ j, j < n * k → w.frozen? ⟨b, o + j, none⟩ = false) :
    ∃ vs : List Value, vs.length = n * k ∧ ∀ ty, (Builtin.clear_ #[t] ty #[.slice (some ⟨b, o, none⟩) n c]).run Tryd.prog w = .ok (.tuple #[]) (w.setCells b o vs) := by
  have hl : (Builtin.zeroCells z.cells n).toList.length = n * k := by simp [Builtin.zeroCells, hz]
  have hst := run_storeCells_cells (P := Tryd.prog) b o (Builtin.zeroCells z.cells n).toList 0 w (by intro j hj; have := hc j (by omega); simpa using this) (by intro j hj; first | (simp; done) | exact hf j (by omega)) (by
    intro v hv'
    simp only [Builtin.zeroCells, Array.toList_map, List.mem_map] at hv'
    obtain ⟨q, -, rfl⟩ := hv'
    have hql : q % z.cells.size < z.cells.size := Nat.mod_lt _ (by omega)
    rw [getElem!_pos z.cells _ hql]
    exact h1 _ (Array.getElem_mem _))
  simp only [Nat.add_zero] at hst
  obtain ⟨m, rfl⟩ : ∃ m, n = m + 1 := ⟨n - 1, by omega⟩
  exact ⟨_, hl, fun ty => by simp [Builtin.clear_, run_underlying ht, hv, hst]⟩
set_option maxHeartbeats 4000000 in
set_option maxRecDepth 100000 in
theorem del_L (A : Option Addr) (c : Nat) (l : List S46) (W0 w : World) (hR : Kd.R k46 46 w W0.heap.size (fun _ => True) (.slice A l.length c) l) (HB0 : Below W0.heap.size W0 w) (hl : l.length ≤ 1000000) :
    Calls Tryd.prog 42 #[.slice A l.length c, .func (.func 43) #[] #[]] w fun e w' =>
      ∃ v, e = .returned v ∧ Kd.R k46 46 w' W0.heap.size (fun _ => True) v (keepL l) ∧ Below W0.heap.size W0 w' := by
  have hu := Tryd.underlying46
  have HR := Lib.hid (And.intro hR HB0)
  have hzl := zeroAt_le l
  clear hR HB0
  by_cases hz : zeroAt l = l.length
  · have HZ := Lib.hid hz
    clear hz
    go_enter Tryd.func42, Tryd.ntmps42
    go_wp2_with (go_at_call 64; go_loud (refine (idx_L A c l _ (Kd.R_reads' HR.out.1).2.2 hl).mono ?_; rintro e' w2 ⟨he2, hb_⟩; rw [if_pos HZ.out] at he2; subst he2; have HB2 := Lib.hid hb_; clear hb_))
    go_ret
    exact ⟨_, rfl, by rw [keep_all l HZ.out]; exact Kd.R_below HR.out.1 HB2.out, below_then HR.out.2 HR.out.2.size HB2.out⟩
  · obtain ⟨k0, hk0⟩ : ∃ k0, zeroAt l = k0 := ⟨_, rfl⟩
    have HZ := Lib.hid (And.intro hk0 hz)
    have hne1 : ((k0 : Int) == -1) = false := beq_eq_false_iff_ne.2 (by omega)
    clear hk0 hz
    go_enter Tryd.func42, Tryd.ntmps42
    go_wp2_with (go_at_call 64; go_loud (refine (idx_L A c l _ (Kd.R_reads' HR.out.1).2.2 hl).mono ?_; rintro e' w2 ⟨he2, hb_⟩; rw [if_neg HZ.out.2, HZ.out.1] at he2; subst he2; have HB2 := Lib.hid hb_; clear hb_))
    have hk1 : (k0 : Int) + 1 = ((k0 + 1 : Nat) : Int) := by omega
    have hw0 : IntKind.i64.wrap ((k0 : Int) + 1) = ((k0 + 1 : Nat) : Int) := by rw [IntKind.wrap_i64]; have := HZ.out.1; omega
    go_loopw [5, 6, 7] (fun v5 v6 _ wr => ∃ (i j : Nat) (dk : List S46), v5 = .int .i64 i ∧ v6 = .int .i64 j ∧ Hid (i < j ∧ j ≤ l.length ∧ dk.length = l.length ∧ dk.take i = keepL (l.take j) ∧ dk.drop j = l.drop j ∧ Kd.R k46 46 wr W0.heap.size (fun _ => True) (.slice A l.length c) dk ∧ Below W0.heap.size W0 wr)) (fun _ v6 _ _ => l.length - (RowKit.intOf v6).toNat)
    case atStart =>
      have hz1 := HZ.out.1
      have hz2 := HZ.out.2
      exact ⟨k0, k0 + 1, l, rfl, by rw [show wrap64 ((k0 : Int) + 1) = ((k0 + 1 : Nat) : Int) by unfold wrap64; omega], Lib.hid ⟨by omega, by omega, rfl, by rw [← hz1]; exact keep_start l (by omega), rfl, Kd.R_below HR.out.1 HB2.out, below_then HR.out.2 HR.out.2.size HB2.out⟩⟩
    case round =>
      obtain ⟨i, j, dk, rfl, rfl, hh⟩ := hrel
      obtain ⟨hij, hjl, hdl, hdt, hdd, hRw, hB⟩ := hh.out
      clear hh
      by_cases hlt : j < l.length
      · have hxl : rd_T46 dk (j : Int) = rd_T46 l (j : Int) := by
          unfold rd_T46
          rw [Int.toNat_natCast, List.getD_eq_getElem?_getD, List.getD_eq_getElem?_getD, ← Nat.add_zero j, ← List.getElem?_drop, ← List.getElem?_drop, hdd]
        have hC := (Kd.R_reads' hRw).2.2
        obtain ⟨ad, ead, hx0, hx1, hx2⟩ := at_T46 hC (j : Int) (by omega) (by omega)
        rw [hxl] at hx0 hx1 hx2
        obtain ⟨x, hx⟩ : ∃ x, rd_T46 l (j : Int) = x := ⟨_, rfl⟩
        rw [hx] at hx0 hx1 hx2
        rw [Int.toNat_natCast] at hx0 hx1 hx2
        cases ead
        have hks := keep_succ l j hlt
        rw [hx] at hks
        have hj0 : (0 : Int) ≤ (j : Int) := by omega
        have hj1 : (j : Int) < (l.length : Int) := by omega
        have hi0 : (0 : Int) ≤ (i : Int) := by omega
        have hi1 : (i : Int) < (l.length : Int) := by omega
        have hw1 : IntKind.i64.wrap ((j : Int) + 1) = (j : Int) + 1 := by rw [IntKind.wrap_i64]; omega
        have hw2 : IntKind.i64.wrap ((i : Int) + 1) = (i : Int) + 1 := by rw [IntKind.wrap_i64]; omega
        have HS := Lib.hid (And.intro hks (And.intro hx (And.intro hij (And.intro hjl (And.intro hdl (And.intro hdt (And.intro hdd hxl)))))))
        have HW := Lib.hid (And.intro hRw hB)
        clear hks hx hij hjl hdl hdt hdd hRw hB hxl hC hw0 hk1
        by_cases hz : x.f1 = 0
        · have hzb : decide (x.f1 = 0) = true := decide_eq_true hz
          have HZ1 := Lib.hid (And.intro hz hzb)
          clear hz hzb
          go_wp2_with (go_at_call 43; go_loud (refine (net1_calls _ x).mono ?_; rintro e' w3 ⟨he3, hb_⟩; rw [HZ1.out.2] at he3; subst he3; have hX3 := (hb_.block wr.heap.size (by rw [World.size_alloc]; omega)).trans (heap_alloc_new wr _); have hb3 := below_then (below_alloc (Below.refl wr.heap.size wr) _) (by rw [World.size_alloc]; omega) hb_; have HB3 := Lib.hid hb3; have hv0 : w3.cell? ⟨wr.heap.size, 0, none⟩ = some (.int .i64 x.f0) := (blk_cell hX3 0).trans rfl; have hv1 : w3.cell? ⟨wr.heap.size, 1, none⟩ = some (.int .i64 x.f1) := (blk_cell hX3 1).trans rfl; have hv2 : w3.cell? ⟨wr.heap.size, 2, none⟩ = some (.string x.f2) := (blk_cell hX3 2).trans rfl; clear hb_ hb3 hX3))
          refine ⟨⟨i, j + 1, dk, rfl, ?_, Lib.hid ⟨by have := HS.out.2.2.1; omega, by omega, HS.out.2.2.2.2.1, ?_, ?_, Kd.R_below HW.out.1 HB3.out, below_then HW.out.2 HW.out.2.size HB3.out⟩⟩, ?_⟩
          · rw [show ((j : Int) + 1) = ((j + 1 : Nat) : Int) by omega]
          · rw [HS.out.1, if_pos HZ1.out.1]; exact HS.out.2.2.2.2.2.1
          · rw [← List.drop_drop, ← List.drop_drop, HS.out.2.2.2.2.2.2.1]
          · show l.length - ((j : Int) + 1).toNat < l.length - (j : Int).toNat
            omega
        · have hzb : decide (x.f1 = 0) = false := decide_eq_false hz
          have HZ1 := Lib.hid (And.intro hz hzb)
          clear hz hzb
          go_wp2_with (go_at_call 43; go_loud (refine (net1_calls _ x).mono ?_; rintro e' w3 ⟨he3, hb_⟩; rw [HZ1.out.2] at he3; subst he3; have hX3 := (hb_.block wr.heap.size (by rw [World.size_alloc]; omega)).trans (heap_alloc_new wr _); have hb3 := below_then (below_alloc (Below.refl wr.heap.size wr) _) (by rw [World.size_alloc]; omega) hb_; have HB3 := Lib.hid hb3; have hv0 : w3.cell? ⟨wr.heap.size, 0, none⟩ = some (.int .i64 x.f0) := (blk_cell hX3 0).trans rfl; have hv1 : w3.cell? ⟨wr.heap.size, 1, none⟩ = some (.int .i64 x.f1) := (blk_cell hX3 1).trans rfl; have hv2 : w3.cell? ⟨wr.heap.size, 2, none⟩ = some (.string x.f2) := (blk_cell hX3 2).trans rfl; have hR3 := Kd.R_below HW.out.1 HB3.out; obtain ⟨g', eg', hg1, hg2, hy0, hy1, hy2, hf0, hf1, hf2, hput⟩ := R_putS2_L hR3 i HS.out.2.2.2.2.1 (by have := HS.out.2.2.1; omega); cases eg'; have HP := Lib.hid (And.intro hput (And.intro hg1 hg2)); have hne2 : g' ≠ wr.heap.size := Nat.ne_of_lt (Kd.R_lt HW.out.1 g' rfl); clear hput hg1 hg2 hR3 hb_ hb3 hX3))
          refine ⟨⟨i + 1, j + 1, dk.set i x, ?_, ?_, Lib.hid ⟨by have := HS.out.2.2.1; omega, by omega, by rw [List.length_set]; exact HS.out.2.2.2.2.1, ?_, ?_, ?_, ?_⟩⟩, ?_⟩
          · rw [show ((i : Int) + 1) = ((i + 1 : Nat) : Int) by omega]
          · rw [show ((j : Int) + 1) = ((j + 1 : Nat) : Int) by omega]
          · have hid : i < dk.length := by have := HS.out.2.2.2.2.1; have := HS.out.2.2.1; omega
            rw [HS.out.1, if_neg HZ1.out.1, ← HS.out.2.2.2.2.2.1, List.take_add_one, List.getElem?_set_self hid, List.take_set_of_le (Nat.le_refl _)]
            rfl
          · rw [List.drop_set_of_lt (by have := HS.out.2.2.1; omega), ← List.drop_drop, ← List.drop_drop, HS.out.2.2.2.2.2.2.1]
          · exact HP.out.1 x
          · exact (((below_then HW.out.2 HW.out.2.size HB3.out).setCell HP.out.2.1 _).setCell HP.out.2.1 _).setCell HP.out.2.1 _
          · show l.length - ((j : Int) + 1).toNat < l.length - (j : Int).toNat
            omega
      · have hjj : j = l.length := by omega
        subst hjj
        have hge : ¬ ((l.length : Int) < (l.length : Int)) := by omega
        have hRd : Kd.R k46 46 wr W0.heap.size (fun _ => True) (.slice A dk.length c) dk := by rw [hdl]; exact hRw
        obtain ⟨g, eg, hg1, hg2, hfz, hce, hcut⟩ := R_cut_L hRd i (by omega) (by omega)
        subst eg
        obtain ⟨vs, hvs, hcl⟩ := run_clear_sliceK wr 22 46 (.agg #[(.int .i64 0), (.int .i64 0), (.string ⟨#[]⟩)]) 3 Tryd.underlying22 (fun w => by rfl) rfl (by omega) (by
          intro v hv
          simp [Value.cells] at hv
          rcases hv with rfl | rfl <;> rfl) g (i * 3) (l.length - i) (c - i) (by omega) (fun j hj => hce _ (by omega)) (fun j hj => hfz _)
        have hcR := hcut vs (by omega)
        have hcB := setCells_below hg1 vs (i * 3) wr hB
        rw [hdt, List.take_length] at hcR
        have hi0 : (0 : Int) ≤ (i : Int) := by omega
        have hi1 : (i : Int) ≤ (l.length : Int) := by omega
        have hlc := (Kd.R_reads' hRw).2.1
        have hi2 : (i : Int) ≤ (c : Int) := by omega
        have HF := Lib.hid (And.intro hcR hcB)
        clear hcR hcB hcut hRd hRw hB hdt hdd hvs
        go_wp2
        go_ret
        exact ⟨_, rfl, HF.out.1, HF.out.2⟩
def netS (l : List S46) : List S46 := keepL (collS l)
def entry_Net.f (l0 : List S46) : Option (List S46) := if l0.length ≤ 100000 then some (netS l0) else none
set_option maxHeartbeats 4000000 in
set_option maxRecDepth 100000 in
theorem entry_Net.calls (A0 : Option Addr) (c0 : Nat) (l0 : List S46) (r : List S46) (w : World) (hr0 : Kd.C k46 w A0 l0.length l0) (hc0 : l0.length ≤ c0) (h : entry_Net.f l0 = some r) :
    Calls Tryd.prog 18 #[.slice A0 l0.length c0] w fun e w' => ∃ v0_ : Value, e = .returned (v0_) ∧ Kd.R k46 46 w' w.heap.size (fun _ => True) v0_ r ∧ Below w.heap.size w w' := by
  unfold entry_Net.f at h
  split at h
  case isFalse => cases h
  case isTrue hlim =>
  obtain rfl := Option.some.inj h
  clear h
  have HR := Lib.hid hr0
  have hcl := collS_len l0
  clear hr0
  go_enter Tryd.func18, Tryd.ntmps18
  go_wp2_with (first
    | (go_at_call 41; go_loud (refine (entry_collect.calls A0 c0 l0 _ HR.out hlim).mono ?_; rintro e' w2 ⟨v2, rfl, hR2, hb2⟩; have HY := Lib.hid (And.intro hR2 hb2); clear hR2 hb2; obtain ⟨A2, c2, ev2⟩ := Kd.R_slice HY.out.1; subst ev2))
    | (go_at_call 42; go_loud (refine (del_L A2 c2 (collS l0) w _ HY.out.1 HY.out.2 (by omega)).mono ?_; rintro e' w3 ⟨v3, rfl, hR3, hb3⟩; have HZ := Lib.hid (And.intro hR3 hb3); clear hR3 hb3)))
  go_ret
  exact ⟨_, rfl, HZ.out.1, HZ.out.2⟩
end Go.Proofs.YtkfgnjdchnpjeaaDoor

