/- MsgRecv: what the law MessageOnce asks of it. -/
import Derived.Test.YthmlibimhdeocaaDoorOnMapSet
import Derived.Test.YthmlibimhdeocaaDoorOnQBx2
import Derived.Deep.RegionHeld3
namespace Go.Proofs.YthmlibimhdeocaaDoor
open Go.RowKit Go.Shelf Go.Lib Go.Proofs.YthmlibimhdeocaaDoor.QD Go.Proofs.YthmlibimhdeocaaDoorW.PrintWords
set_option linter.unusedVariables false
set_option linter.unusedSimpArgs false

theorem eqM (d : Nat) (w : World) (x0 y0 : ByteArray) (x1 y1 : Int) (x2 y2 : Int) (x3 y3 : Int) (x4 y4 : Int) (x5 y5 : Int) (x6 y6 : ByteArray) :
    (Op.equalIn (d + 2) 23 (.agg #[.string x0, .int .i64 x1, .int .i64 x2, .int .i64 x3, .int .i64 x4, .int .i64 x5, .string x6]) (.agg #[.string y0, .int .i64 y1, .int .i64 y2, .int .i64 y3, .int .i64 y4, .int .i64 y5, .string y6])).run Tryd.prog w = .ok (x0.toList == y0.toList && (x1 == y1 && (x2 == y2 && (x3 == y3 && (x4 == y4 && (x5 == y5 && (x6.toList == y6.toList))))))) w := by
  refine eqA_of Tryd.underlying23 (by kernel_rfl) ?_
  refine eqf_cons (by rfl) (by go_simp; rfl) (by go_simp; rfl) (by go_simp) ?_
  refine eqf_cons (by rfl) (by go_simp; rfl) (by go_simp; rfl) (by go_simp) ?_
  refine eqf_cons (by rfl) (by go_simp; rfl) (by go_simp; rfl) (by go_simp) ?_
  refine eqf_cons (by rfl) (by go_simp; rfl) (by go_simp; rfl) (by go_simp) ?_
  refine eqf_cons (by rfl) (by go_simp; rfl) (by go_simp; rfl) (by go_simp) ?_
  refine eqf_cons (by rfl) (by go_simp; rfl) (by go_simp; rfl) (by go_simp) ?_
  exact eqf_last (by rfl) (by go_simp; rfl) (by go_simp; rfl) (by go_simp)
/-- Two messages are the same one. -/
def sameM (x y : S23) : Bool := x.f0.toList == y.f0.toList && (x.f1 == y.f1 && (x.f2 == y.f2 && (x.f3 == y.f3 && (x.f4 == y.f4 && (x.f5 == y.f5 && (x.f6.toList == y.f6.toList))))))
theorem equal_in (t : TypeId) (a b : Value) : Op.equal t a b = Op.equalIn 10000 t a b := by rw [Op.equal, Op.maxDepth]
set_option maxRecDepth 100000 in
theorem neM (x y : S23) (w : World) : (binOp .neq 23 (.agg #[.string x.f0, .int .i64 x.f1, .int .i64 x.f2, .int .i64 x.f3, .int .i64 x.f4, .int .i64 x.f5, .string x.f6]) (.agg #[.string y.f0, .int .i64 y.f1, .int .i64 y.f2, .int .i64 y.f3, .int .i64 y.f4, .int .i64 y.f5, .string y.f6])).run Tryd.prog w = .ok (.bool (!(sameM x y))) w := by
  have h := eqM 9998 w x.f0 y.f0 x.f1 y.f1 x.f2 y.f2 x.f3 y.f3 x.f4 y.f4 x.f5 y.f5 x.f6 y.f6
  simp only [Nat.reduceAdd] at h
  rw [← equal_in] at h
  unfold sameM
  simp [binOp, h, Result.andThen]
theorem idxByFrom_lt {α : Type} (p : α → α → Bool) (d : α) : ∀ (l : List α) (i : Nat), Lib.idxByFrom p d l i = -1 ∨ ((i : Int) ≤ Lib.idxByFrom p d l i ∧ Lib.idxByFrom p d l i < (i : Int) + (l.length : Int))
  | [], i => .inl (by simp [Lib.idxByFrom])
  | x :: r, i => by
    unfold Lib.idxByFrom
    split
    · right
      simp only [List.length_cons]
      omega
    · have := idxByFrom_lt p d r (i + 1)
      simp only [List.length_cons]
      omega
theorem idxBy_lt {α : Type} (p : α → α → Bool) (d : α) (l : List α) : Lib.idxBy p l d = -1 ∨ (0 ≤ Lib.idxBy p l d ∧ Lib.idxBy p l d < l.length) := by
  have := idxByFrom_lt p d l 0
  unfold Lib.idxBy
  omega
/-- What message.Receive answers behind its check. -/
def recvM (l : List S23) (m : S23) : List S23 × Bool × Int :=
  if 0 ≤ Lib.idxBy (fun _ y => decide (cmpM y m = 0)) l default then
    (if sameM (rd_T23 l (Lib.idxBy (fun _ y => decide (cmpM y m = 0)) l default)) m = true then (l, false, 0) else ([], false, 13))
  else if 4096 ≤ l.length then ([], false, 5)
  else if Lib.idxBy (fun _ y => decide (cmpM y m > 0)) l default < 0 then (l.take l.length ++ m :: l.drop l.length, true, 0)
  else (l.take (Lib.idxBy (fun _ y => decide (cmpM y m > 0)) l default).toNat ++ m :: l.drop (Lib.idxBy (fun _ y => decide (cmpM y m > 0)) l default).toNat, true, 0)
def message_Receive.f (l0 : List S23) (a0 : ByteArray) (a1 a2 a3 a4 a5 : Int) (a6 : ByteArray) : Option (List S23 × Bool × Int) :=
  if l0.length ≤ 1000000 then (QB.message_Check.f 5000 a0 a1 a2 a3 a4 a5 a6).bind fun e => if e = 0 then some (recvM l0 ⟨a0, a1, a2, a3, a4, a5, a6⟩) else some ([], false, e) else none
/-- The box's cells in any later world. -/
theorem box_cells {W : World} {m : S23} {g : Nat} (h : W.heap[g]? = some (.cells (encM m).toArray 23 (0, 0))) :
    W.cell? ⟨g, 0, none⟩ = some (.string m.f0) ∧ W.cell? ⟨g, 1, none⟩ = some (.int .i64 m.f1) ∧ W.cell? ⟨g, 2, none⟩ = some (.int .i64 m.f2) ∧ W.cell? ⟨g, 3, none⟩ = some (.int .i64 m.f3) ∧ W.cell? ⟨g, 4, none⟩ = some (.int .i64 m.f4) ∧ W.cell? ⟨g, 5, none⟩ = some (.int .i64 m.f5) ∧ W.cell? ⟨g, 6, none⟩ = some (.string m.f6) :=
  ⟨(blk_cell h 0).trans rfl, (blk_cell h 1).trans rfl, (blk_cell h 2).trans rfl, (blk_cell h 3).trans rfl, (blk_cell h 4).trans rfl, (blk_cell h 5).trans rfl, (blk_cell h 6).trans rfl⟩
theorem eg41 : ∀ args w, (callFunc 41 args).run Tryd.prog w = .ok (.enter 41 args) w := enters_of Tryd.func41 (by kernel_rfl) rfl
theorem eg44 : ∀ args w, (callFunc 44 args).run Tryd.prog w = .ok (.enter 44 args) w := enters_of Tryd.func44 (by kernel_rfl) rfl
set_option maxHeartbeats 4000000 in
set_option maxRecDepth 100000 in
/-- A message that the check refuses. -/
theorem recv_bad (A0 : Option Addr) (c0 : Nat) (l0 : List S23) (m : S23) (e : Int) (w : World) (he : QB.message_Check.f 5000 m.f0 m.f1 m.f2 m.f3 m.f4 m.f5 m.f6 = some e) (hne : ¬ e = 0) :
    Calls Tryd.prog 18 #[.slice A0 l0.length c0, .agg #[.string m.f0, .int .i64 m.f1, .int .i64 m.f2, .int .i64 m.f3, .int .i64 m.f4, .int .i64 m.f5, .string m.f6]] w fun e' w' => e' = .returned (.tuple #[.slice none 0 0, .bool false, .int .i64 e]) ∧ Below w.heap.size w w' := by
  have hu23 := Tryd.underlying23
  have HC := Lib.hid (fun w0 => QB.message_Check.calls 5000 m.f0 m.f1 m.f2 m.f3 m.f4 m.f5 m.f6 e w0 he)
  have hb0 : (e != 0) = true := by simpa using hne
  clear he
  go_enter Tryd.func18, Tryd.ntmps18
  go_wp2_with (go_at_call 12; refine (HC.out _).mono ?_; rintro e' w' ⟨rfl, hb1⟩; have HB1 := Lib.hid hb1; clear hb1)
  go_ret3
  exact ⟨rfl, below_then (below_alloc (Below.refl _ _) _) (by rw [World.size_alloc]; omega) HB1.out⟩
set_option maxHeartbeats 4000000 in
set_option maxRecDepth 100000 in
/-- A message whose place is taken. -/
theorem recv_there (A0 : Option Addr) (c0 : Nat) (l0 : List S23) (m : S23) (w : World) (hr0 : Kd.C k23 w A0 l0.length l0) (hl : l0.length ≤ 1000000)
    (he : QB.message_Check.f 5000 m.f0 m.f1 m.f2 m.f3 m.f4 m.f5 m.f6 = some 0) (i1 : Int) (hi1 : Lib.idxBy (fun _ y => decide (cmpM y m = 0)) l0 default = i1) (h0 : 0 ≤ i1) :
    Calls Tryd.prog 18 #[.slice A0 l0.length c0, .agg #[.string m.f0, .int .i64 m.f1, .int .i64 m.f2, .int .i64 m.f3, .int .i64 m.f4, .int .i64 m.f5, .string m.f6]] w fun e' w' =>
      if sameM (rd_T23 l0 i1) m = true then ∃ v0_ : Value, e' = .returned (.tuple #[v0_, .bool false, .int .i64 0]) ∧ Kd.R k23 23 w' w.heap.size (fun _ => True) v0_ l0 ∧ Below w.heap.size w w'
      else e' = .returned (.tuple #[.slice none 0 0, .bool false, .int .i64 13]) ∧ Below w.heap.size w w' := by
  have hu23 := Tryd.underlying23
  have HC := Lib.hid (fun w0 => QB.message_Check.calls 5000 m.f0 m.f1 m.f2 m.f3 m.f4 m.f5 m.f6 0 w0 he)
  have hlt : i1 < (l0.length : Int) := by
    rcases idxBy_lt (fun _ y => decide (cmpM y m = 0)) default l0 with h | ⟨_, h⟩
    · rw [hi1] at h; omega
    · rw [hi1] at h; exact h
  obtain ⟨ad, rfl, hx0, hx1, hx2, hx3, hx4, hx5, hx6⟩ := at_T23 hr0 i1 h0 hlt
  have hneq := neM (rd_T23 l0 i1) m
  have HR := Lib.hid hr0
  have HCX := Lib.hid (And.intro hx0 (And.intro hx1 (And.intro hx2 (And.intro hx3 (And.intro hx4 (And.intro hx5 hx6))))))
  obtain ⟨y, hy⟩ : ∃ y, rd_T23 l0 i1 = y := ⟨_, rfl⟩
  rw [hy] at HCX hneq ⊢
  clear he hr0 hx0 hx1 hx2 hx3 hx4 hx5 hx6 hy
  generalize hq : (ad.add (i1.toNat * 7)) = q at HCX
  go_enter Tryd.func18, Tryd.ntmps18
  go_wp2_with (first
    | (go_at_call 12; refine (HC.out _).mono ?_; rintro e' w2 ⟨rfl, hb1⟩; have HX2 := Lib.hid (And.intro (show w2.heap[w.heap.size]? = some (.cells (encM m).toArray 23 (0, 0)) from (hb1.block _ (by rw [World.size_alloc]; omega)).trans (heap_alloc_new w _)) (below_then (below_alloc (Below.refl _ _) _) (by rw [World.size_alloc]; omega) hb1)); clear hb1)
    | (go_at_call 40; refine (idx_calls (fun x => decide (cmpM x m = 0)) 41 _ eg41 _ c0 l0 _ (Kd.C_below HR.out HX2.out.2) (clo_eq m w.heap.size _ HX2.out.1)).mono ?_; rintro e' w3 ⟨he3, hb3⟩; obtain rfl : e' = .returned (.int .i64 i1) := he3.trans (by rw [← hi1]); have HX3 := Lib.hid (And.intro ((hb3.block _ (blk_lt HX2.out.1)).trans HX2.out.1) (below_then HX2.out.2 HX2.out.2.size hb3)); clear hb3 he3))
  have hbx := HX3.out.2
  have hx0 := (hbx.cell (World.block_lt_of_cell? _ _ HCX.out.1)).trans HCX.out.1
  have hx1 := (hbx.cell (World.block_lt_of_cell? _ _ HCX.out.2.1)).trans HCX.out.2.1
  have hx2 := (hbx.cell (World.block_lt_of_cell? _ _ HCX.out.2.2.1)).trans HCX.out.2.2.1
  have hx3 := (hbx.cell (World.block_lt_of_cell? _ _ HCX.out.2.2.2.1)).trans HCX.out.2.2.2.1
  have hx4 := (hbx.cell (World.block_lt_of_cell? _ _ HCX.out.2.2.2.2.1)).trans HCX.out.2.2.2.2.1
  have hx5 := (hbx.cell (World.block_lt_of_cell? _ _ HCX.out.2.2.2.2.2.1)).trans HCX.out.2.2.2.2.2.1
  have hx6 := (hbx.cell (World.block_lt_of_cell? _ _ HCX.out.2.2.2.2.2.2)).trans HCX.out.2.2.2.2.2.2
  obtain ⟨b0, b1, b2, b3, b4, b5, b6⟩ := box_cells HX3.out.1
  clear hbx
  go_region_held3 (fun w' => w'.cell? q = some (.string y.f0) ∧ w'.cell? ⟨q.block, q.off + 1, none⟩ = some (.int .i64 y.f1) ∧ w'.cell? ⟨q.block, q.off + 2, none⟩ = some (.int .i64 y.f2) ∧ w'.cell? ⟨q.block, q.off + 3, none⟩ = some (.int .i64 y.f3) ∧ w'.cell? ⟨q.block, q.off + 4, none⟩ = some (.int .i64 y.f4) ∧ w'.cell? ⟨q.block, q.off + 5, none⟩ = some (.int .i64 y.f5) ∧ w'.cell? ⟨q.block, q.off + 6, none⟩ = some (.string y.f6) ∧
      w'.cell? ⟨w.heap.size, 0, none⟩ = some (.string m.f0) ∧ w'.cell? ⟨w.heap.size, 1, none⟩ = some (.int .i64 m.f1) ∧ w'.cell? ⟨w.heap.size, 2, none⟩ = some (.int .i64 m.f2) ∧ w'.cell? ⟨w.heap.size, 3, none⟩ = some (.int .i64 m.f3) ∧ w'.cell? ⟨w.heap.size, 4, none⟩ = some (.int .i64 m.f4) ∧ w'.cell? ⟨w.heap.size, 5, none⟩ = some (.int .i64 m.f5) ∧ w'.cell? ⟨w.heap.size, 6, none⟩ = some (.string m.f6)) (go_keep) (fail)
  by_cases hs : sameM y m = true
  · rw [hs, Bool.not_true]
    go_wp2_with (go_at_call 43; refine (clone_calls _ c0 l0 _ (Kd.C_below HR.out HX3.out.2.drew) hl).mono ?_; rintro e' w4 ⟨v4, rfl, hR4, hb4⟩; have HR4 := Lib.hid (And.intro hR4 (below_then HX3.out.2.drew HX3.out.2.size hb4)); clear hR4 hb4)
    go_ret3
    exact ⟨_, rfl, Kd.R_lower HR4.out.1 HX3.out.2.size, HR4.out.2⟩
  · have hs' : sameM y m = false := by simpa using hs
    rw [hs', Bool.not_false]
    go_wp2
    go_ret3
    exact ⟨rfl, HX3.out.2.drew⟩
set_option maxHeartbeats 4000000 in
set_option maxRecDepth 100000 in
/-- No message with this place, and no room in the list. -/
theorem recv_full (A0 : Option Addr) (c0 : Nat) (l0 : List S23) (m : S23) (w : World) (hr0 : Kd.C k23 w A0 l0.length l0)
    (he : QB.message_Check.f 5000 m.f0 m.f1 m.f2 m.f3 m.f4 m.f5 m.f6 = some 0) (hi1 : Lib.idxBy (fun _ y => decide (cmpM y m = 0)) l0 default = -1) (hfull : 4096 ≤ l0.length) :
    Calls Tryd.prog 18 #[.slice A0 l0.length c0, .agg #[.string m.f0, .int .i64 m.f1, .int .i64 m.f2, .int .i64 m.f3, .int .i64 m.f4, .int .i64 m.f5, .string m.f6]] w fun e' w' => e' = .returned (.tuple #[.slice none 0 0, .bool false, .int .i64 5]) ∧ Below w.heap.size w w' := by
  have hu23 := Tryd.underlying23
  have HC := Lib.hid (fun w0 => QB.message_Check.calls 5000 m.f0 m.f1 m.f2 m.f3 m.f4 m.f5 m.f6 0 w0 he)
  have HR := Lib.hid hr0
  have hz : (4096 : Int) ≤ (l0.length : Int) := by omega
  clear he hr0 hfull
  go_enter Tryd.func18, Tryd.ntmps18
  go_wp2_with (first
    | (go_at_call 12; refine (HC.out _).mono ?_; rintro e' w2 ⟨rfl, hb1⟩; have HX2 := Lib.hid (And.intro (show w2.heap[w.heap.size]? = some (.cells (encM m).toArray 23 (0, 0)) from (hb1.block _ (by rw [World.size_alloc]; omega)).trans (heap_alloc_new w _)) (below_then (below_alloc (Below.refl _ _) _) (by rw [World.size_alloc]; omega) hb1)); clear hb1)
    | (go_at_call 40; refine (idx_calls (fun x => decide (cmpM x m = 0)) 41 _ eg41 _ c0 l0 _ (Kd.C_below HR.out HX2.out.2) (clo_eq m w.heap.size _ HX2.out.1)).mono ?_; rintro e' w3 ⟨he3, hb3⟩; obtain rfl : e' = .returned (.int .i64 (-1)) := he3.trans (by rw [← hi1]); have HX3 := Lib.hid (And.intro ((hb3.block _ (blk_lt HX2.out.1)).trans HX2.out.1) (below_then HX2.out.2 HX2.out.2.size hb3)); clear hb3 he3))
  go_ret3
  exact ⟨rfl, HX3.out.2⟩
/-- The row cloned, the message's own row laid ahead of it or behind it: Insert. -/
theorem ins_any (m : S23) (g k : Nat) (l0 : List S23) (A6 : Option Addr) (c6 : Nat) {w w5 w6 Wc : World} (hb5 : w5.heap[w.heap.size]? = some (.cells (encM m).toArray 23 (0, 0))) (HB5 : Below w.heap.size w w5)
    (hR6 : Kd.R k23 23 w6 Wc.heap.size (fun _ => True) (.slice A6 l0.length c6) l0) (hb6 : Below Wc.heap.size Wc w6) (hl : l0.length ≤ 1000000) (hk : k ≤ l0.length) (W : World)
    (hw : (Wc = w5.drew ∧ W = w6.alloc (.cells (encM m).toArray 23) ∧ g = w6.heap.size) ∨ (Wc = w5.drew.alloc (.cells (encM m).toArray 23) ∧ W = w6 ∧ g = w5.heap.size)) :
    Calls Tryd.prog 45 #[.slice A6 l0.length c6, .int .i64 (k : Int), .slice (some ⟨g, 0, none⟩) 1 1] W fun e w' => ∃ v, e = .returned v ∧ Kd.R k23 23 w' w.heap.size (fun _ => True) v (l0.take k ++ m :: l0.drop k) ∧ Below w.heap.size w w' ∧
      w'.heap[w.heap.size]? = some (.cells (encM m).toArray 23 (0, 0)) := by
  have hlt := blk_lt hb5
  have hsz := HB5.size
  rcases hw with ⟨rfl, rfl, rfl⟩ | ⟨rfl, rfl, rfl⟩
  · have h0 : w5.drew.heap.size = w5.heap.size := rfl
    refine (ins_calls m w6.heap.size k l0 A6 c6 w5.drew _ (Kd.R_below hR6 (below_alloc (Below.refl _ _) _)) (heap_alloc_new w6 _) (fun a ha => ?_) (Below.alloc hb6 hb6.size _) hl hk).mono ?_
    · have := Kd.R_lt hR6 a.block (by rw [ha]; rfl)
      omega
    · rintro e w' ⟨v, h1, h2, h3⟩
      exact ⟨v, h1, Kd.R_lower h2 (by omega), below_then HB5.drew hsz h3, (h3.block _ hlt).trans hb5⟩
  · have h0 : (w5.drew.alloc (.cells (encM m).toArray 23)).heap.size = w5.heap.size + 1 := by rw [World.size_alloc]; rfl
    refine (ins_calls m w5.heap.size k l0 A6 c6 (w5.drew.alloc (.cells (encM m).toArray 23)) _ hR6 ((hb6.block _ (by omega)).trans (heap_alloc_new w5.drew _)) (fun a ha => ?_) hb6 hl hk).mono ?_
    · obtain ⟨-, inner, ho, -⟩ := hR6
      have := own_base ho a.block (by rw [ha]; rfl)
      omega
    · rintro e w' ⟨v, h1, h2, h3⟩
      have h4 : Below w5.heap.size w5 w' := below_then (below_alloc (Below.drew (Below.refl _ _)) _) (by omega) h3
      exact ⟨v, h1, Kd.R_lower h2 (by omega), below_then HB5 hsz h4, (h4.block _ hlt).trans hb5⟩
set_option maxHeartbeats 4000000 in
set_option maxRecDepth 100000 in
/-- A new message: its place is ahead of i2, or at the end. -/
theorem recv_new (A0 : Option Addr) (c0 : Nat) (l0 : List S23) (m : S23) (w : World) (hr0 : Kd.C k23 w A0 l0.length l0)
    (he : QB.message_Check.f 5000 m.f0 m.f1 m.f2 m.f3 m.f4 m.f5 m.f6 = some 0) (hi1 : Lib.idxBy (fun _ y => decide (cmpM y m = 0)) l0 default = -1) (hroom : l0.length < 4096) (i2 : Int) (hi2 : Lib.idxBy (fun _ y => decide (cmpM y m > 0)) l0 default = i2) (k : Nat) (hk : k = if i2 < 0 then l0.length else i2.toNat) :
    Calls Tryd.prog 18 #[.slice A0 l0.length c0, .agg #[.string m.f0, .int .i64 m.f1, .int .i64 m.f2, .int .i64 m.f3, .int .i64 m.f4, .int .i64 m.f5, .string m.f6]] w fun e' w' =>
      ∃ v0_ : Value, e' = .returned (.tuple #[v0_, .bool true, .int .i64 0]) ∧ Kd.R k23 23 w' w.heap.size (fun _ => True) v0_ (l0.take k ++ m :: l0.drop k) ∧ Below w.heap.size w w' := by
  have hu23 := Tryd.underlying23
  have HC := Lib.hid (fun w0 => QB.message_Check.calls 5000 m.f0 m.f1 m.f2 m.f3 m.f4 m.f5 m.f6 0 w0 he)
  have hi2b : i2 = -1 ∨ (0 ≤ i2 ∧ i2 < (l0.length : Int)) := by
    have := idxBy_lt (fun _ y => decide (cmpM y m > 0)) default l0
    rw [hi2] at this
    exact this
  have hkl : k ≤ l0.length := by
    rw [hk]
    split <;> omega
  have HR := Lib.hid hr0
  have hz : ¬ ((4096 : Int) ≤ (l0.length : Int)) := by omega
  have HK := Lib.hid (And.intro hkl (show l0.length ≤ 1000000 by omega))
  clear he hr0 hroom
  by_cases hneg : i2 < 0
  · obtain rfl : i2 = -1 := by omega
    obtain rfl : k = l0.length := by rw [hk, if_pos hneg]
    clear hneg hk hi2b hkl
    go_enter Tryd.func18, Tryd.ntmps18
    go_wp2_with (first
      | (go_at_call 12; refine (HC.out _).mono ?_; rintro e' w2 ⟨rfl, hb1⟩; have HX2 := Lib.hid (And.intro (show w2.heap[w.heap.size]? = some (.cells (encM m).toArray 23 (0, 0)) from (hb1.block _ (by rw [World.size_alloc]; omega)).trans (heap_alloc_new w _)) (below_then (below_alloc (Below.refl _ _) _) (by rw [World.size_alloc]; omega) hb1)); clear hb1)
      | (go_at_call 40; (with_reducible show Calls _ _ #[_, .func (.func 41) _ _] _ _); refine (idx_calls (fun x => decide (cmpM x m = 0)) 41 _ eg41 _ c0 l0 _ (Kd.C_below HR.out HX2.out.2) (clo_eq m w.heap.size _ HX2.out.1)).mono ?_; rintro e' w3 ⟨he3, hb3⟩; obtain rfl : e' = .returned (.int .i64 (-1)) := he3.trans (by rw [← hi1]); have HX3 := Lib.hid (And.intro ((hb3.block _ (blk_lt HX2.out.1)).trans HX2.out.1) (below_then HX2.out.2 HX2.out.2.size hb3)); clear hb3 he3)
      | (go_at_call 40; go_loud (refine (idx_calls (fun x => decide (cmpM x m > 0)) 44 _ eg44 _ c0 l0 _ (Kd.C_below HR.out HX3.out.2) (clo_gt m w.heap.size _ HX3.out.1)).mono ?_; rintro e' w5 ⟨he5, hb5⟩; obtain rfl : e' = .returned (.int .i64 (-1)) := he5.trans (by rw [← hi2]); have HX5 := Lib.hid (And.intro ((hb5.block _ (blk_lt HX3.out.1)).trans HX3.out.1) (below_then HX3.out.2 HX3.out.2.size hb5)); clear hb5 he5)))
    obtain ⟨b0, b1, b2, b3, b4, b5, b6⟩ := box_cells HX5.out.1
    go_region_held3 (fun w' => w'.cell? ⟨w.heap.size, 0, none⟩ = some (.string m.f0) ∧ w'.cell? ⟨w.heap.size, 1, none⟩ = some (.int .i64 m.f1) ∧ w'.cell? ⟨w.heap.size, 2, none⟩ = some (.int .i64 m.f2) ∧ w'.cell? ⟨w.heap.size, 3, none⟩ = some (.int .i64 m.f3) ∧ w'.cell? ⟨w.heap.size, 4, none⟩ = some (.int .i64 m.f4) ∧ w'.cell? ⟨w.heap.size, 5, none⟩ = some (.int .i64 m.f5) ∧ w'.cell? ⟨w.heap.size, 6, none⟩ = some (.string m.f6))
      (first
        | go_keep
        | (refine box_cells ((hb6.block _ ?_).trans ?_) <;> first | exact blk_lt (blk_drew HX5.out.1) | exact blk_drew HX5.out.1 | exact blk_lt (blk_alloc (blk_drew HX5.out.1) _) | exact blk_alloc (blk_drew HX5.out.1) _)
        | exact box_cells hx7)
      (first
        | (go_at_call 43; refine (clone_calls _ c0 l0 _ (by first | exact Kd.C_below HR.out HX5.out.2.drew | exact Kd.C_below HR.out (HX5.out.2.drew.alloc HX5.out.2.size _)) HK.out.2).mono ?_; rintro e' w6 ⟨v6, rfl, hR6, hb6⟩; obtain ⟨A6, c6, rfl⟩ := Kd.R_slice hR6)
        | (go_at_call 45; refine (ins_any m _ l0.length l0 A6 c6 HX5.out.1 HX5.out.2 hR6 hb6 HK.out.2 HK.out.1 _ (by first | exact .inl ⟨rfl, rfl, rfl⟩ | exact .inr ⟨rfl, rfl, rfl⟩)).mono ?_; rintro e' w7 ⟨v7, rfl, hR7, hb7, hx7⟩))
    all_goals (go_wp2; go_ret3; exact ⟨_, rfl, hR7, hb7⟩)
  · obtain rfl : i2 = (k : Int) := by rw [if_neg hneg] at hk; omega
    clear hneg hk hi2b hkl
    go_enter Tryd.func18, Tryd.ntmps18
    go_wp2_with (first
      | (go_at_call 12; refine (HC.out _).mono ?_; rintro e' w2 ⟨rfl, hb1⟩; have HX2 := Lib.hid (And.intro (show w2.heap[w.heap.size]? = some (.cells (encM m).toArray 23 (0, 0)) from (hb1.block _ (by rw [World.size_alloc]; omega)).trans (heap_alloc_new w _)) (below_then (below_alloc (Below.refl _ _) _) (by rw [World.size_alloc]; omega) hb1)); clear hb1)
      | (go_at_call 40; (with_reducible show Calls _ _ #[_, .func (.func 41) _ _] _ _); refine (idx_calls (fun x => decide (cmpM x m = 0)) 41 _ eg41 _ c0 l0 _ (Kd.C_below HR.out HX2.out.2) (clo_eq m w.heap.size _ HX2.out.1)).mono ?_; rintro e' w3 ⟨he3, hb3⟩; obtain rfl : e' = .returned (.int .i64 (-1)) := he3.trans (by rw [← hi1]); have HX3 := Lib.hid (And.intro ((hb3.block _ (blk_lt HX2.out.1)).trans HX2.out.1) (below_then HX2.out.2 HX2.out.2.size hb3)); clear hb3 he3)
      | (go_at_call 40; go_loud (refine (idx_calls (fun x => decide (cmpM x m > 0)) 44 _ eg44 _ c0 l0 _ (Kd.C_below HR.out HX3.out.2) (clo_gt m w.heap.size _ HX3.out.1)).mono ?_; rintro e' w5 ⟨he5, hb5⟩; obtain rfl : e' = .returned (.int .i64 ((k : Int))) := he5.trans (by rw [← hi2]); have HX5 := Lib.hid (And.intro ((hb5.block _ (blk_lt HX3.out.1)).trans HX3.out.1) (below_then HX3.out.2 HX3.out.2.size hb5)); clear hb5 he5)))
    obtain ⟨b0, b1, b2, b3, b4, b5, b6⟩ := box_cells HX5.out.1
    go_region_held3 (fun w' => w'.cell? ⟨w.heap.size, 0, none⟩ = some (.string m.f0) ∧ w'.cell? ⟨w.heap.size, 1, none⟩ = some (.int .i64 m.f1) ∧ w'.cell? ⟨w.heap.size, 2, none⟩ = some (.int .i64 m.f2) ∧ w'.cell? ⟨w.heap.size, 3, none⟩ = some (.int .i64 m.f3) ∧ w'.cell? ⟨w.heap.size, 4, none⟩ = some (.int .i64 m.f4) ∧ w'.cell? ⟨w.heap.size, 5, none⟩ = some (.int .i64 m.f5) ∧ w'.cell? ⟨w.heap.size, 6, none⟩ = some (.string m.f6))
      (first
        | go_keep
        | (refine box_cells ((hb6.block _ ?_).trans ?_) <;> first | exact blk_lt (blk_drew HX5.out.1) | exact blk_drew HX5.out.1 | exact blk_lt (blk_alloc (blk_drew HX5.out.1) _) | exact blk_alloc (blk_drew HX5.out.1) _)
        | exact box_cells hx7)
      (first
        | (go_at_call 43; refine (clone_calls _ c0 l0 _ (by first | exact Kd.C_below HR.out HX5.out.2.drew | exact Kd.C_below HR.out (HX5.out.2.drew.alloc HX5.out.2.size _)) HK.out.2).mono ?_; rintro e' w6 ⟨v6, rfl, hR6, hb6⟩; obtain ⟨A6, c6, rfl⟩ := Kd.R_slice hR6)
        | (go_at_call 45; refine (ins_any m _ k l0 A6 c6 HX5.out.1 HX5.out.2 hR6 hb6 HK.out.2 HK.out.1 _ (by first | exact .inl ⟨rfl, rfl, rfl⟩ | exact .inr ⟨rfl, rfl, rfl⟩)).mono ?_; rintro e' w7 ⟨v7, rfl, hR7, hb7, hx7⟩))
    all_goals (go_wp2; go_ret3; exact ⟨_, rfl, hR7, hb7⟩)
theorem message_Receive.calls (A0 : Option Addr) (c0 : Nat) (l0 : List S23) (a1_0 : ByteArray) (a1_1 a1_2 a1_3 a1_4 a1_5 : Int) (a1_6 : ByteArray) (r1 : List S23) (r2 : Bool) (r3 : Int) (w : World) (hr0 : Kd.C k23 w A0 l0.length l0) (hc0 : l0.length ≤ c0)
    (h : message_Receive.f l0 a1_0 a1_1 a1_2 a1_3 a1_4 a1_5 a1_6 = some (r1, r2, r3)) :
    Calls Tryd.prog 18 #[.slice A0 l0.length c0, .agg #[.string a1_0, .int .i64 a1_1, .int .i64 a1_2, .int .i64 a1_3, .int .i64 a1_4, .int .i64 a1_5, .string a1_6]] w fun e w' =>
      ∃ v0_ : Value, e = .returned (.tuple #[v0_, .bool r2, .int .i64 r3]) ∧ Kd.R k23 23 w' w.heap.size (fun _ => True) v0_ r1 ∧ Below w.heap.size w w' := by
  unfold message_Receive.f at h
  split at h
  case isFalse => cases h
  case isTrue hlim =>
  obtain ⟨e, he, h⟩ := Option.bind_eq_some_iff.1 h
  obtain ⟨m, hm⟩ : ∃ m : S23, m = ⟨a1_0, a1_1, a1_2, a1_3, a1_4, a1_5, a1_6⟩ := ⟨_, rfl⟩
  have he' : QB.message_Check.f 5000 m.f0 m.f1 m.f2 m.f3 m.f4 m.f5 m.f6 = some e := by rw [hm]; exact he
  rw [← hm] at h
  have hgoal : ∀ (x : Value), x = .agg #[.string m.f0, .int .i64 m.f1, .int .i64 m.f2, .int .i64 m.f3, .int .i64 m.f4, .int .i64 m.f5, .string m.f6] → Calls Tryd.prog 18 #[.slice A0 l0.length c0, x] w fun e w' =>
      ∃ v0_ : Value, e = .returned (.tuple #[v0_, .bool r2, .int .i64 r3]) ∧ Kd.R k23 23 w' w.heap.size (fun _ => True) v0_ r1 ∧ Below w.heap.size w w' := by
    rintro _ rfl
    by_cases e0 : e = 0
    · subst e0
      rw [if_pos rfl] at h
      have h := Option.some.inj h
      unfold recvM at h
      by_cases h0 : 0 ≤ Lib.idxBy (fun _ y => decide (cmpM y m = 0)) l0 default
      · rw [if_pos h0] at h
        refine (recv_there A0 c0 l0 m w hr0 hlim he' _ rfl h0).mono ?_
        intro e w' hh
        by_cases hs : sameM (rd_T23 l0 (Lib.idxBy (fun _ y => decide (cmpM y m = 0)) l0 default)) m = true
        · rw [if_pos hs] at h hh
          cases h
          exact hh
        · rw [if_neg hs] at h hh
          cases h
          exact ⟨_, hh.1, Kd.R_nil _ _ _ _ _, hh.2⟩
      · rw [if_neg h0] at h
        have hi1 : Lib.idxBy (fun _ y => decide (cmpM y m = 0)) l0 default = -1 := by
          have := idxBy_lt (fun _ y => decide (cmpM y m = 0)) default l0
          omega
        by_cases hf : 4096 ≤ l0.length
        · rw [if_pos hf] at h
          cases h
          refine (recv_full A0 c0 l0 m w hr0 he' hi1 hf).mono ?_
          rintro e w' ⟨h1, h2⟩
          exact ⟨_, h1, Kd.R_nil _ _ _ _ _, h2⟩
        · rw [if_neg hf] at h
          by_cases hj : Lib.idxBy (fun _ y => decide (cmpM y m > 0)) l0 default < 0
          · rw [if_pos hj] at h
            cases h
            exact recv_new A0 c0 l0 m w hr0 he' hi1 (by omega) _ rfl _ (by rw [if_pos hj])
          · rw [if_neg hj] at h
            cases h
            exact recv_new A0 c0 l0 m w hr0 he' hi1 (by omega) _ rfl _ (by rw [if_neg hj])
    · rw [if_neg e0] at h
      cases h
      refine (recv_bad A0 c0 l0 m _ w he' e0).mono ?_
      rintro e w' ⟨h1, h2⟩
      exact ⟨_, h1, Kd.R_nil _ _ _ _ _, h2⟩
  exact hgoal _ (by rw [hm])
end Go.Proofs.YthmlibimhdeocaaDoor

