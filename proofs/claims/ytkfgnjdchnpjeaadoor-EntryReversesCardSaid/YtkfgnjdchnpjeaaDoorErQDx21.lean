/- QDx21: what the law EntryReverses asks of it. -/
import Derived.Test.YtkfgnjdchnpjeaaDoorErEntDel
import Derived.Test.YtkfgnjdchnpjeaaDoorErEntRev
import Derived.Test.YtkfgnjdchnpjeaaDoorErEntLive
import Derived.Test.YtkfgnjdchnpjeaaDoorErQDx0
import Derived.Test.YtkfgnjdchnpjeaaDoorErQDx4
import Derived.Test.YtkfgnjdchnpjeaaDoorErQDx6
namespace Go.Proofs.YtkfgnjdchnpjeaaDoor.QD
open Go.RowKit Go.Proofs.YtkfgnjdchnpjeaaDoorW.PrintWords Go.Proofs.YtkfgnjdchnpjeaaDoorW.PrintLast Go.Proofs.YtkfgnjdchnpjeaaDoorW.PrintMore
attribute [local go_sem] max2_int min2_int max_two min_two max_three min_three max_four min_four   -- for this text's walks alone
set_option linter.unusedVariables false
set_option linter.unusedSimpArgs false
def corebanklaw19_EntryReverses.j0 : Nat → ByteArray → Int → Bool → Int → Int → Int → Int → Int → Int → ByteArray → ByteArray → List (S46) → Int → Option (Bool)
 | 0, _, _, _, _, _, _, _, _, _, _, _, _, _ => none
 | k + 1, x1, x2, x21, x482000, x482001, x482002, x482003, x482004, x482005, x482006, x482007, x482008, x482009 => if x21 = true then ((corebanklaw19_live.f).bind fun t484 => (some t484)) else ((entry_Reverse.f x482000 x482001 x482002 x482003 x482004 x482005 x482006 x482007 x482008 x482009 x1 x2).bind fun bt485 => (if bt485.2.2.2.2.2.2.2.2.2.2 = 0 then ((some (([] : List (S46)) : List (S46))).bind fun y499 => (if y499.length + x482008.length < 4398046511104 then ((some (y499 ++ x482008 : List (S46))).bind fun y502 => (if y502.length + bt485.2.2.2.2.2.2.2.2.1.length < 4398046511104 then ((entry_Net.f (y502 ++ bt485.2.2.2.2.2.2.2.2.1)).bind fun t508 => (if (t508.length : Int) = 0 then ((entry_Check.f k bt485.1 bt485.2.1 bt485.2.2.1 bt485.2.2.2.1 bt485.2.2.2.2.1 bt485.2.2.2.2.2.1 bt485.2.2.2.2.2.2.1 bt485.2.2.2.2.2.2.2.1 bt485.2.2.2.2.2.2.2.2.1 bt485.2.2.2.2.2.2.2.2.2.1).bind fun t511 => (if t511 = 0 then (if bt485.2.2.1 = x482002 then (if bt485.2.1 = x2 then (if bt485.2.2.2.2.2.2.1.toList = x1.toList then ((corebanklaw19_live.f).bind fun t512 => (some t512)) else (some false)) else (some false)) else (some false)) else (some false))) else (some false))) else (none))) else (none))) else (if bt485.2.2.2.2.2.2.2.2.2.2 = 1 then (if (bt485.2.2.2.2.2.2.2.2.1.length : Int) = 0 then ((corebanklaw19_live.f).bind fun t513 => (some t513)) else (some false)) else (some false))))
def corebanklaw19_EntryReverses.f (k : Nat) (a0_0 : Int) (a0_1 : Int) (a0_2 : Int) (a0_3 : Int) (a0_4 : Int) (a0_5 : Int) (a0_6 : ByteArray) (a0_7 : ByteArray) (l0_8 : List (S46)) (a0_9 : Int) (a1 : ByteArray) (a2 : Int) : Option (Bool) := (corebankref19_Great.f k a0_0 a0_1 a0_2 a0_3 a0_4 a0_5 a0_6 a0_7 l0_8 a0_9).bind fun t482 => (if t482 = true then (corebanklaw19_EntryReverses.j0 k a1 a2 true a0_0 a0_1 a0_2 a0_3 a0_4 a0_5 a0_6 a0_7 l0_8 a0_9) else (if (a1.size : Int) > 1000 then (corebanklaw19_EntryReverses.j0 k a1 a2 true a0_0 a0_1 a0_2 a0_3 a0_4 a0_5 a0_6 a0_7 l0_8 a0_9) else ((entry_Check.f k a0_0 a0_1 a0_2 a0_3 a0_4 a0_5 a0_6 a0_7 l0_8 a0_9).bind fun t483 => (corebanklaw19_EntryReverses.j0 k a1 a2 (t483 != 0) a0_0 a0_1 a0_2 a0_3 a0_4 a0_5 a0_6 a0_7 l0_8 a0_9))))
def corebanklaw19_EntryReverses.T6 : Bool × List (List Nat × List Nat) := (true, [([], []), ([], []), ([1], [1]), ([0, 2], [0, 2]), ([], []), ([4], [4]), ([3, 5, 3], [3, 5]), ([6, 6, 0, 1, 2, 3, 4, 5, 6], [6])])
def corebanklaw19_EntryReverses.B6 : List Nat := [0, 0, 2, 7, 0, 16, 63, 127]
theorem corebanklaw19_EntryReverses.tab6 : rtab .any (opsOf Tryd.f8 6) = corebanklaw19_EntryReverses.T6 := by kernel_rfl
theorem corebanklaw19_EntryReverses.bits6 : waitsOk corebanklaw19_EntryReverses.T6.2 corebanklaw19_EntryReverses.B6 = true := by kernel_rfl
set_option maxHeartbeats 8000000 in
set_option maxRecDepth 100000 in
theorem corebanklaw19_EntryReverses.calls (k : Nat) (a0_0 : Int) (a0_1 : Int) (a0_2 : Int) (a0_3 : Int) (a0_4 : Int) (a0_5 : Int) (a0_6 : ByteArray) (a0_7 : ByteArray) (A0_8 : Option Addr) (c0_8 : Nat) (l0_8 : List (S46)) (a0_9 : Int) (a1 : ByteArray) (a2 : Int) (w : World) (hr0_8 : Kd.C k46 w A0_8 l0_8.length l0_8) (hc0_8 : l0_8.length ≤ c0_8) (HTab_ : TabW w) (h : corebanklaw19_EntryReverses.f k a0_0 a0_1 a0_2 a0_3 a0_4 a0_5 a0_6 a0_7 l0_8 a0_9 a1 a2 = some true) :
  Calls Tryd.prog 8 #[.agg #[.int .i64 a0_0, .int .i64 a0_1, .int .i64 a0_2, .int .i64 a0_3, .int .i64 a0_4, .int .i64 a0_5, .string a0_6, .string a0_7, .slice A0_8 l0_8.length c0_8, .int .u64 a0_9], .string a1, .int .i64 a2] w fun e w' => e = .returned (.bool true) ∧ Below w.heap.size w w' := by
 have hu25 := Tryd.underlying25
 have HR0_8 := Aside0.mk hr0_8
 have HC0_8 := Aside0.mk hc0_8
 clear hr0_8 hc0_8
 have HTab := Aside0.mk HTab_
 clear HTab_
 have HB := Aside0.mk (Below.refl w.heap.size w)
 have H : ((corebankref19_Great.f k a0_0 a0_1 a0_2 a0_3 a0_4 a0_5 a0_6 a0_7 l0_8 a0_9).bind fun t482 => (if t482 = true then (corebanklaw19_EntryReverses.j0 k a1 a2 true a0_0 a0_1 a0_2 a0_3 a0_4 a0_5 a0_6 a0_7 l0_8 a0_9) else (if (a1.size : Int) > 1000 then (corebanklaw19_EntryReverses.j0 k a1 a2 true a0_0 a0_1 a0_2 a0_3 a0_4 a0_5 a0_6 a0_7 l0_8 a0_9) else ((entry_Check.f k a0_0 a0_1 a0_2 a0_3 a0_4 a0_5 a0_6 a0_7 l0_8 a0_9).bind fun t483 => (corebanklaw19_EntryReverses.j0 k a1 a2 (t483 != 0) a0_0 a0_1 a0_2 a0_3 a0_4 a0_5 a0_6 a0_7 l0_8 a0_9))))) = some true := h
 clear h
 have HC4 := Aside0.mk H
 clear H
 go_enter Tryd.func8, Tryd.ntmps8
 go_upto_region 1 with (first | ((with_reducible refine gate_dst (N := 3) rfl ?_); (try (refine gate_guard (by rfl) ?_; dsimp only)); refine box_event ?hg (N := 3) ?hd (cs := #[.int .i64 a0_0, .int .i64 a0_1, .int .i64 a0_2, .int .i64 a0_3, .int .i64 a0_4, .int .i64 a0_5, .string a0_6, .string a0_7, .slice A0_8 l0_8.length c0_8, .int .u64 a0_9]) (t := 25) ?hr ?_; (case hd => rfl); (case hg => rfl); (case hr => first | (go_simp; done) | (go_simp; rfl)); intro gb481 hg w5 hbox hb; have n0_ := Aside0.mk (below_step (by repeat (first | (with_reducible first | exact HB.out | apply below_alloc | apply pw_below_drewN | apply below_drew1) | exact HB.out)) hb); have n1_ := Aside0.mk (hbox); have n2_ := Aside0.mk ((by rw [hg]; exact (below_size (by repeat (first | (with_reducible first | exact HB.out | apply below_alloc | apply pw_below_drewN | apply below_drew1) | exact HB.out))) : w.heap.size ≤ gb481)); have n3_ := Aside0.mk ((by rw [hg]; exact (below_size (by repeat (first | (with_reducible first | exact HB.out | apply below_alloc | apply pw_below_drewN | apply below_drew1) | exact HB.out))) : w.heap.size ≤ gb481)); clear HB; have HB := n0_; have BK481 := n1_; have GW481 := n2_; have GE481 := n3_; clear n0_ n1_ n2_ n3_; clear hb hbox hg))
 (try simp only [Act.put, List.setIfInBounds_toArray, List.set_cons_zero, List.set_cons_succ])
 go_cut [21] (fun v21 wc => ∃ (kq : Nat) (x21_3 : Bool), v21 = .bool x21_3 ∧ Aside0 (corebanklaw19_EntryReverses.j0 kq a1 a2 x21_3 a0_0 a0_1 a0_2 a0_3 a0_4 a0_5 a0_6 a0_7 l0_8 a0_9 = some true) ∧ Aside0 (kq ≤ k) ∧ Aside0 (wc.heap[gb481]? = some (.cells #[.int .i64 a0_0, .int .i64 a0_1, .int .i64 a0_2, .int .i64 a0_3, .int .i64 a0_4, .int .i64 a0_5, .string a0_6, .string a0_7, (.slice A0_8 l0_8.length c0_8), .int .u64 a0_9] 25 (0, 0))) ∧ Aside0 (Below w.heap.size w wc))
 case first =>
  have H := HC4.out
  clear HC4
  replace H := Option.bind_eq_some_iff.mp H
  obtain ⟨t482, A60, H⟩ := H
  replace H : (if t482 = true then (corebanklaw19_EntryReverses.j0 k a1 a2 true a0_0 a0_1 a0_2 a0_3 a0_4 a0_5 a0_6 a0_7 l0_8 a0_9) else (if (a1.size : Int) > 1000 then (corebanklaw19_EntryReverses.j0 k a1 a2 true a0_0 a0_1 a0_2 a0_3 a0_4 a0_5 a0_6 a0_7 l0_8 a0_9) else ((entry_Check.f k a0_0 a0_1 a0_2 a0_3 a0_4 a0_5 a0_6 a0_7 l0_8 a0_9).bind fun t483 => (corebanklaw19_EntryReverses.j0 k a1 a2 (t483 != 0) a0_0 a0_1 a0_2 a0_3 a0_4 a0_5 a0_6 a0_7 l0_8 a0_9)))) = some true := H
  have A6 := Aside0.mk A60
  clear A60
  by_cases c7 : t482 = true
  ·subst c7
   have H1 : (corebanklaw19_EntryReverses.j0 k a1 a2 true a0_0 a0_1 a0_2 a0_3 a0_4 a0_5 a0_6 a0_7 l0_8 a0_9) = some true := by rw [if_pos rfl] at H; exact H
   clear H
   have H := H1
   clear H1
   have H' := Aside0.mk H
   clear H
   have hcz8_0 : w5.cell? ⟨gb481, 0, none⟩ = some (.int .i64 a0_0) := (blk_cell BK481.out 0).trans rfl
   have hcz8_1 : w5.cell? ⟨gb481, 1, none⟩ = some (.int .i64 a0_1) := (blk_cell BK481.out 1).trans rfl
   have hcz8_2 : w5.cell? ⟨gb481, 2, none⟩ = some (.int .i64 a0_2) := (blk_cell BK481.out 2).trans rfl
   have hcz8_3 : w5.cell? ⟨gb481, 3, none⟩ = some (.int .i64 a0_3) := (blk_cell BK481.out 3).trans rfl
   have hcz8_4 : w5.cell? ⟨gb481, 4, none⟩ = some (.int .i64 a0_4) := (blk_cell BK481.out 4).trans rfl
   have hcz8_5 : w5.cell? ⟨gb481, 5, none⟩ = some (.int .i64 a0_5) := (blk_cell BK481.out 5).trans rfl
   have hcz8_6 : w5.cell? ⟨gb481, 6, none⟩ = some (.string a0_6) := (blk_cell BK481.out 6).trans rfl
   have hcz8_7 : w5.cell? ⟨gb481, 7, none⟩ = some (.string a0_7) := (blk_cell BK481.out 7).trans rfl
   have hcz8_8 : w5.cell? ⟨gb481, 8, none⟩ = some (.slice A0_8 l0_8.length c0_8) := (blk_cell BK481.out 8).trans rfl
   have hcz8_9 : w5.cell? ⟨gb481, 9, none⟩ = some (.int .u64 a0_9) := (blk_cell BK481.out 9).trans rfl
   have hfz8_0 := blk_frozen BK481.out 0
   have hfz8_1 := blk_frozen BK481.out 1
   have hfz8_2 := blk_frozen BK481.out 2
   have hfz8_3 := blk_frozen BK481.out 3
   have hfz8_4 := blk_frozen BK481.out 4
   have hfz8_5 := blk_frozen BK481.out 5
   have hfz8_6 := blk_frozen BK481.out 6
   have hfz8_7 := blk_frozen BK481.out 7
   have hfz8_8 := blk_frozen BK481.out 8
   have hfz8_9 := blk_frozen BK481.out 9
   go_wp2_with (first | ((with_reducible refine gate_callee (f := 10) rfl ?_); refine goesL_ (some 11) rfl rfl Tryd.func10 (by kernel_rfl) rfl #[.agg #[.int .i64 a0_0, .int .i64 a0_1, .int .i64 a0_2, .int .i64 a0_3, .int .i64 a0_4, .int .i64 a0_5, .string a0_6, .string a0_7, .slice A0_8 l0_8.length c0_8, .int .u64 a0_9]] rfl (by (try simp only [List.map_toArray, List.map_cons, List.map_nil]); first | done | rfl | (simp only [List.length_drop, List.length_take]; rfl)) ?_; (with_reducible refine (corebankref19_Great.calls k a0_0 a0_1 a0_2 a0_3 a0_4 a0_5 a0_6 a0_7 _ _ l0_8 a0_9 true _ ?side1 ?side2 A6.out).mono ?_); (case side1 => repeat (first | exact (Kd.C_below HR0_8.out HB.out) | (with_reducible refine Kd.C_alloc ?_ _) | (with_reducible refine Kd.C_drewN ?_ _) | (with_reducible refine Kd.C_drew ?_))); (case side2 => exact HC0_8.out); rintro e w9 ⟨rfl, hb⟩; refine ⟨_, rfl, ?_⟩; have n0_ := Aside0.mk (blk_below (g := gb481) (o := .cells #[.int .i64 a0_0, .int .i64 a0_1, .int .i64 a0_2, .int .i64 a0_3, .int .i64 a0_4, .int .i64 a0_5, .string a0_6, .string a0_7, .slice A0_8 l0_8.length c0_8, .int .u64 a0_9] 25 (0, 0)) (by (with_reducible repeat (first | refine blk_drewN ?_ _ | refine blk_drew ?_ | refine blk_alloc ?_ _)); exact BK481.out) hb); have n1_ := Aside0.mk (below_step (by repeat (first | (with_reducible first | exact HB.out | apply below_alloc | apply pw_below_drewN | apply below_drew1 | refine below_set ?_ GE481.out) | exact HB.out)) hb); clear BK481; clear HB; have BK481 := n0_; have HB := n1_; clear n0_ n1_; (try clear hb); (try clear hb2); (try clear hk); (try clear hi)))
   go_meet
   case rel => exact ⟨_, (true), (by first | rfl | (simp; done) | (simp [*]; done)), H', ⟨by first | omega | exact Nat.le_refl _⟩, ⟨by (with_reducible repeat (first | refine blk_drewN ?_ _ | refine blk_drew ?_ | refine blk_alloc ?_ _)); exact BK481.out⟩, ⟨by repeat (first | (with_reducible first | exact HB.out | apply below_alloc | apply pw_below_drewN | apply below_drew1 | refine below_set ?_ GE481.out) | exact HB.out)⟩⟩
  ·replace c7 := Bool.eq_false_iff.mpr c7
   subst c7
   have H1 : (if (a1.size : Int) > 1000 then (corebanklaw19_EntryReverses.j0 k a1 a2 true a0_0 a0_1 a0_2 a0_3 a0_4 a0_5 a0_6 a0_7 l0_8 a0_9) else ((entry_Check.f k a0_0 a0_1 a0_2 a0_3 a0_4 a0_5 a0_6 a0_7 l0_8 a0_9).bind fun t483 => (corebanklaw19_EntryReverses.j0 k a1 a2 (t483 != 0) a0_0 a0_1 a0_2 a0_3 a0_4 a0_5 a0_6 a0_7 l0_8 a0_9))) = some true := by rw [if_neg (show ¬ (false = true) by decide)] at H; exact H
   clear H
   have H := H1
   clear H1
   by_cases c10 : (a1.size : Int) > 1000
   ·rw [if_pos c10] at H
    have c10b0 : decide (1000 < (a1.size : Int)) = true := decide_eq_true c10
    have c10b1 : decide (1000 < a1.size) = true := decide_eq_true (by omega)
    clear c10
    (first | rw [c10b0] | (simp only [i64_w, i32_w]; rw [c10b0]) | skip)
    have H' := Aside0.mk H
    clear H
    have hcz11_0 : w5.cell? ⟨gb481, 0, none⟩ = some (.int .i64 a0_0) := (blk_cell BK481.out 0).trans rfl
    have hcz11_1 : w5.cell? ⟨gb481, 1, none⟩ = some (.int .i64 a0_1) := (blk_cell BK481.out 1).trans rfl
    have hcz11_2 : w5.cell? ⟨gb481, 2, none⟩ = some (.int .i64 a0_2) := (blk_cell BK481.out 2).trans rfl
    have hcz11_3 : w5.cell? ⟨gb481, 3, none⟩ = some (.int .i64 a0_3) := (blk_cell BK481.out 3).trans rfl
    have hcz11_4 : w5.cell? ⟨gb481, 4, none⟩ = some (.int .i64 a0_4) := (blk_cell BK481.out 4).trans rfl
    have hcz11_5 : w5.cell? ⟨gb481, 5, none⟩ = some (.int .i64 a0_5) := (blk_cell BK481.out 5).trans rfl
    have hcz11_6 : w5.cell? ⟨gb481, 6, none⟩ = some (.string a0_6) := (blk_cell BK481.out 6).trans rfl
    have hcz11_7 : w5.cell? ⟨gb481, 7, none⟩ = some (.string a0_7) := (blk_cell BK481.out 7).trans rfl
    have hcz11_8 : w5.cell? ⟨gb481, 8, none⟩ = some (.slice A0_8 l0_8.length c0_8) := (blk_cell BK481.out 8).trans rfl
    have hcz11_9 : w5.cell? ⟨gb481, 9, none⟩ = some (.int .u64 a0_9) := (blk_cell BK481.out 9).trans rfl
    have hfz11_0 := blk_frozen BK481.out 0
    have hfz11_1 := blk_frozen BK481.out 1
    have hfz11_2 := blk_frozen BK481.out 2
    have hfz11_3 := blk_frozen BK481.out 3
    have hfz11_4 := blk_frozen BK481.out 4
    have hfz11_5 := blk_frozen BK481.out 5
    have hfz11_6 := blk_frozen BK481.out 6
    have hfz11_7 := blk_frozen BK481.out 7
    have hfz11_8 := blk_frozen BK481.out 8
    have hfz11_9 := blk_frozen BK481.out 9
    go_wp2_with (first | ((with_reducible refine gate_callee (f := 10) rfl ?_); refine goesL_ (some 11) rfl rfl Tryd.func10 (by kernel_rfl) rfl #[.agg #[.int .i64 a0_0, .int .i64 a0_1, .int .i64 a0_2, .int .i64 a0_3, .int .i64 a0_4, .int .i64 a0_5, .string a0_6, .string a0_7, .slice A0_8 l0_8.length c0_8, .int .u64 a0_9]] rfl (by (try simp only [List.map_toArray, List.map_cons, List.map_nil]); first | done | rfl | (simp only [List.length_drop, List.length_take]; rfl)) ?_; (with_reducible refine (corebankref19_Great.calls k a0_0 a0_1 a0_2 a0_3 a0_4 a0_5 a0_6 a0_7 _ _ l0_8 a0_9 false _ ?side1 ?side2 A6.out).mono ?_); (case side1 => repeat (first | exact (Kd.C_below HR0_8.out HB.out) | (with_reducible refine Kd.C_alloc ?_ _) | (with_reducible refine Kd.C_drewN ?_ _) | (with_reducible refine Kd.C_drew ?_))); (case side2 => exact HC0_8.out); rintro e w12 ⟨rfl, hb⟩; refine ⟨_, rfl, ?_⟩; have n0_ := Aside0.mk (blk_below (g := gb481) (o := .cells #[.int .i64 a0_0, .int .i64 a0_1, .int .i64 a0_2, .int .i64 a0_3, .int .i64 a0_4, .int .i64 a0_5, .string a0_6, .string a0_7, .slice A0_8 l0_8.length c0_8, .int .u64 a0_9] 25 (0, 0)) (by (with_reducible repeat (first | refine blk_drewN ?_ _ | refine blk_drew ?_ | refine blk_alloc ?_ _)); exact BK481.out) hb); have n1_ := Aside0.mk (below_step (by repeat (first | (with_reducible first | exact HB.out | apply below_alloc | apply pw_below_drewN | apply below_drew1 | refine below_set ?_ GE481.out) | exact HB.out)) hb); clear BK481; clear HB; have BK481 := n0_; have HB := n1_; clear n0_ n1_; (try clear hb); (try clear hb2); (try clear hk); (try clear hi)))
    go_meet
    case rel => exact ⟨_, (true), (by first | rfl | (simp; done) | (simp [*]; done)), H', ⟨by first | omega | exact Nat.le_refl _⟩, ⟨by (with_reducible repeat (first | refine blk_drewN ?_ _ | refine blk_drew ?_ | refine blk_alloc ?_ _)); exact BK481.out⟩, ⟨by repeat (first | (with_reducible first | exact HB.out | apply below_alloc | apply pw_below_drewN | apply below_drew1 | refine below_set ?_ GE481.out) | exact HB.out)⟩⟩
   ·rw [if_neg c10] at H
    have c10b0 : decide (1000 < (a1.size : Int)) = false := decide_eq_false c10
    have c10b1 : decide (1000 < a1.size) = false := decide_eq_false (by omega)
    clear c10
    (first | rw [c10b0] | (simp only [i64_w, i32_w]; rw [c10b0]) | skip)
    replace H := Option.bind_eq_some_iff.mp H
    obtain ⟨t483, A130, H⟩ := H
    replace H : (corebanklaw19_EntryReverses.j0 k a1 a2 (t483 != 0) a0_0 a0_1 a0_2 a0_3 a0_4 a0_5 a0_6 a0_7 l0_8 a0_9) = some true := H
    have A13 := Aside0.mk A130
    clear A130
    have H' := Aside0.mk H
    clear H
    have hcz14_0 : w5.cell? ⟨gb481, 0, none⟩ = some (.int .i64 a0_0) := (blk_cell BK481.out 0).trans rfl
    have hcz14_1 : w5.cell? ⟨gb481, 1, none⟩ = some (.int .i64 a0_1) := (blk_cell BK481.out 1).trans rfl
    have hcz14_2 : w5.cell? ⟨gb481, 2, none⟩ = some (.int .i64 a0_2) := (blk_cell BK481.out 2).trans rfl
    have hcz14_3 : w5.cell? ⟨gb481, 3, none⟩ = some (.int .i64 a0_3) := (blk_cell BK481.out 3).trans rfl
    have hcz14_4 : w5.cell? ⟨gb481, 4, none⟩ = some (.int .i64 a0_4) := (blk_cell BK481.out 4).trans rfl
    have hcz14_5 : w5.cell? ⟨gb481, 5, none⟩ = some (.int .i64 a0_5) := (blk_cell BK481.out 5).trans rfl
    have hcz14_6 : w5.cell? ⟨gb481, 6, none⟩ = some (.string a0_6) := (blk_cell BK481.out 6).trans rfl
    have hcz14_7 : w5.cell? ⟨gb481, 7, none⟩ = some (.string a0_7) := (blk_cell BK481.out 7).trans rfl
    have hcz14_8 : w5.cell? ⟨gb481, 8, none⟩ = some (.slice A0_8 l0_8.length c0_8) := (blk_cell BK481.out 8).trans rfl
    have hcz14_9 : w5.cell? ⟨gb481, 9, none⟩ = some (.int .u64 a0_9) := (blk_cell BK481.out 9).trans rfl
    have hfz14_0 := blk_frozen BK481.out 0
    have hfz14_1 := blk_frozen BK481.out 1
    have hfz14_2 := blk_frozen BK481.out 2
    have hfz14_3 := blk_frozen BK481.out 3
    have hfz14_4 := blk_frozen BK481.out 4
    have hfz14_5 := blk_frozen BK481.out 5
    have hfz14_6 := blk_frozen BK481.out 6
    have hfz14_7 := blk_frozen BK481.out 7
    have hfz14_8 := blk_frozen BK481.out 8
    have hfz14_9 := blk_frozen BK481.out 9
    go_wp2_with (first | ((with_reducible refine gate_callee (f := 10) rfl ?_); refine goesL_ (some 11) rfl rfl Tryd.func10 (by kernel_rfl) rfl #[.agg #[.int .i64 a0_0, .int .i64 a0_1, .int .i64 a0_2, .int .i64 a0_3, .int .i64 a0_4, .int .i64 a0_5, .string a0_6, .string a0_7, .slice A0_8 l0_8.length c0_8, .int .u64 a0_9]] rfl (by (try simp only [List.map_toArray, List.map_cons, List.map_nil]); first | done | rfl | (simp only [List.length_drop, List.length_take]; rfl)) ?_; (with_reducible refine (corebankref19_Great.calls k a0_0 a0_1 a0_2 a0_3 a0_4 a0_5 a0_6 a0_7 _ _ l0_8 a0_9 false _ ?side1 ?side2 A6.out).mono ?_); (case side1 => repeat (first | exact (Kd.C_below HR0_8.out HB.out) | (with_reducible refine Kd.C_alloc ?_ _) | (with_reducible refine Kd.C_drewN ?_ _) | (with_reducible refine Kd.C_drew ?_))); (case side2 => exact HC0_8.out); rintro e w15 ⟨rfl, hb⟩; refine ⟨_, rfl, ?_⟩; have n0_ := Aside0.mk (blk_below (g := gb481) (o := .cells #[.int .i64 a0_0, .int .i64 a0_1, .int .i64 a0_2, .int .i64 a0_3, .int .i64 a0_4, .int .i64 a0_5, .string a0_6, .string a0_7, .slice A0_8 l0_8.length c0_8, .int .u64 a0_9] 25 (0, 0)) (by (with_reducible repeat (first | refine blk_drewN ?_ _ | refine blk_drew ?_ | refine blk_alloc ?_ _)); exact BK481.out) hb); have n1_ := Aside0.mk (below_step (by repeat (first | (with_reducible first | exact HB.out | apply below_alloc | apply pw_below_drewN | apply below_drew1 | refine below_set ?_ GE481.out) | exact HB.out)) hb); clear BK481; clear HB; have BK481 := n0_; have HB := n1_; clear n0_ n1_; (try clear hb); (try clear hb2); (try clear hk); (try clear hi); have hcz16_0 : w15.cell? ⟨gb481, 0, none⟩ = some (.int .i64 a0_0) := (blk_cell BK481.out 0).trans rfl; have hcz16_1 : w15.cell? ⟨gb481, 1, none⟩ = some (.int .i64 a0_1) := (blk_cell BK481.out 1).trans rfl; have hcz16_2 : w15.cell? ⟨gb481, 2, none⟩ = some (.int .i64 a0_2) := (blk_cell BK481.out 2).trans rfl; have hcz16_3 : w15.cell? ⟨gb481, 3, none⟩ = some (.int .i64 a0_3) := (blk_cell BK481.out 3).trans rfl; have hcz16_4 : w15.cell? ⟨gb481, 4, none⟩ = some (.int .i64 a0_4) := (blk_cell BK481.out 4).trans rfl; have hcz16_5 : w15.cell? ⟨gb481, 5, none⟩ = some (.int .i64 a0_5) := (blk_cell BK481.out 5).trans rfl; have hcz16_6 : w15.cell? ⟨gb481, 6, none⟩ = some (.string a0_6) := (blk_cell BK481.out 6).trans rfl; have hcz16_7 : w15.cell? ⟨gb481, 7, none⟩ = some (.string a0_7) := (blk_cell BK481.out 7).trans rfl; have hcz16_8 : w15.cell? ⟨gb481, 8, none⟩ = some (.slice A0_8 l0_8.length c0_8) := (blk_cell BK481.out 8).trans rfl; have hcz16_9 : w15.cell? ⟨gb481, 9, none⟩ = some (.int .u64 a0_9) := (blk_cell BK481.out 9).trans rfl; have hfz16_0 := blk_frozen BK481.out 0; have hfz16_1 := blk_frozen BK481.out 1; have hfz16_2 := blk_frozen BK481.out 2; have hfz16_3 := blk_frozen BK481.out 3; have hfz16_4 := blk_frozen BK481.out 4; have hfz16_5 := blk_frozen BK481.out 5; have hfz16_6 := blk_frozen BK481.out 6; have hfz16_7 := blk_frozen BK481.out 7; have hfz16_8 := blk_frozen BK481.out 8; have hfz16_9 := blk_frozen BK481.out 9) | (go_at_call 12; (with_reducible refine (entry_Check.calls k a0_0 a0_1 a0_2 a0_3 a0_4 a0_5 a0_6 a0_7 _ _ l0_8 a0_9 t483 _ ?side1 ?side2 A13.out).mono ?_); (case side1 => repeat (first | exact (Kd.C_below HR0_8.out HB.out) | (with_reducible refine Kd.C_alloc ?_ _) | (with_reducible refine Kd.C_drewN ?_ _) | (with_reducible refine Kd.C_drew ?_))); (case side2 => exact HC0_8.out); rintro e w17 ⟨rfl, hb⟩; have n0_ := Aside0.mk (blk_below (g := gb481) (o := .cells #[.int .i64 a0_0, .int .i64 a0_1, .int .i64 a0_2, .int .i64 a0_3, .int .i64 a0_4, .int .i64 a0_5, .string a0_6, .string a0_7, .slice A0_8 l0_8.length c0_8, .int .u64 a0_9] 25 (0, 0)) (by (with_reducible repeat (first | refine blk_drewN ?_ _ | refine blk_drew ?_ | refine blk_alloc ?_ _)); exact BK481.out) hb); have n1_ := Aside0.mk (below_step (by repeat (first | (with_reducible first | exact HB.out | apply below_alloc | apply pw_below_drewN | apply below_drew1 | refine below_set ?_ GE481.out) | exact HB.out)) hb); clear BK481; clear HB; have BK481 := n0_; have HB := n1_; clear n0_ n1_; (try clear hb); (try clear hb2); (try clear hk); (try clear hi)))
    go_meet
    case rel => exact ⟨_, ((t483 != 0)), (by first | rfl | (simp; done) | (simp [*]; done)), H', ⟨by first | omega | exact Nat.le_refl _⟩, ⟨by (with_reducible repeat (first | refine blk_drewN ?_ _ | refine blk_drew ?_ | refine blk_alloc ?_ _)); exact BK481.out⟩, ⟨by repeat (first | (with_reducible first | exact HB.out | apply below_alloc | apply pw_below_drewN | apply below_drew1 | refine below_set ?_ GE481.out) | exact HB.out)⟩⟩
 case rest =>
  clear HC4
  obtain ⟨kq, x21_3, rfl, HA, HJ3, BK481, HB⟩ := hcut
  cases kq with
  | zero => exact absurd HA.out (by simp [corebanklaw19_EntryReverses.j0])
  | succ kj3 =>
   have H := HA.out
   clear HA
   simp only [corebanklaw19_EntryReverses.j0] at H
   by_cases c18 : x21_3 = true
   ·subst c18
    have H1 : ((corebanklaw19_live.f).bind fun t484 => (some t484)) = some true := by rw [if_pos rfl] at H; exact H
    clear H
    have H := H1
    clear H1
    replace H := Option.bind_eq_some_iff.mp H
    obtain ⟨t484, A190, H⟩ := H
    replace H : (some t484) = some true := H
    have A19 := Aside0.mk A190
    clear A190
    have hr_ : t484 = true := Option.some.inj H
    go_wp2_with (first | ((with_reducible refine gate_callee (f := 11) rfl ?_); refine goesL_ (some 22) rfl rfl Tryd.func11 (by kernel_rfl) rfl #[] rfl (by (try simp only [List.map_toArray, List.map_cons, List.map_nil]); first | done | rfl | (simp only [List.length_drop, List.length_take]; rfl)) ?_; (with_reducible refine (corebanklaw19_live.calls  t484 _ ?side1 A19.out).mono ?_); (case side1 => refine TabW.below HTab.out ?_; repeat (first | (with_reducible first | exact HB.out | apply below_alloc | apply pw_below_drewN | apply below_drew1 | refine below_set ?_ GE481.out) | exact HB.out)); rintro e w20 ⟨rfl, hb⟩; refine ⟨_, rfl, ?_⟩; have n0_ := Aside0.mk (blk_below (g := gb481) (o := .cells #[.int .i64 a0_0, .int .i64 a0_1, .int .i64 a0_2, .int .i64 a0_3, .int .i64 a0_4, .int .i64 a0_5, .string a0_6, .string a0_7, .slice A0_8 l0_8.length c0_8, .int .u64 a0_9] 25 (0, 0)) (by (with_reducible repeat (first | refine blk_drewN ?_ _ | refine blk_drew ?_ | refine blk_alloc ?_ _)); exact BK481.out) hb); have n1_ := Aside0.mk (below_step (by repeat (first | (with_reducible first | exact HB.out | apply below_alloc | apply pw_below_drewN | apply below_drew1 | refine below_set ?_ GE481.out) | exact HB.out)) hb); clear BK481; clear HB; have BK481 := n0_; have HB := n1_; clear n0_ n1_; (try clear hb); (try clear hb2); (try clear hk); (try clear hi)))
    go_ret
    exact ⟨by first | rfl | (simp [errW_none, errW_some] <;> rfl) | (simp [*, errW_none, errW_some] <;> rfl), by repeat (first | (with_reducible first | exact HB.out | apply below_alloc | apply pw_below_drewN | apply below_drew1 | refine below_set ?_ GE481.out) | exact HB.out)⟩
   ·replace c18 := Bool.eq_false_iff.mpr c18
    subst c18
    have H1 : ((entry_Reverse.f a0_0 a0_1 a0_2 a0_3 a0_4 a0_5 a0_6 a0_7 l0_8 a0_9 a1 a2).bind fun bt485 => (if bt485.2.2.2.2.2.2.2.2.2.2 = 0 then ((some (([] : List (S46)) : List (S46))).bind fun y499 => (if y499.length + l0_8.length < 4398046511104 then ((some (y499 ++ l0_8 : List (S46))).bind fun y502 => (if y502.length + bt485.2.2.2.2.2.2.2.2.1.length < 4398046511104 then ((entry_Net.f (y502 ++ bt485.2.2.2.2.2.2.2.2.1)).bind fun t508 => (if (t508.length : Int) = 0 then ((entry_Check.f kj3 bt485.1 bt485.2.1 bt485.2.2.1 bt485.2.2.2.1 bt485.2.2.2.2.1 bt485.2.2.2.2.2.1 bt485.2.2.2.2.2.2.1 bt485.2.2.2.2.2.2.2.1 bt485.2.2.2.2.2.2.2.2.1 bt485.2.2.2.2.2.2.2.2.2.1).bind fun t511 => (if t511 = 0 then (if bt485.2.2.1 = a0_2 then (if bt485.2.1 = a2 then (if bt485.2.2.2.2.2.2.1.toList = a1.toList then ((corebanklaw19_live.f).bind fun t512 => (some t512)) else (some false)) else (some false)) else (some false)) else (some false))) else (some false))) else (none))) else (none))) else (if bt485.2.2.2.2.2.2.2.2.2.2 = 1 then (if (bt485.2.2.2.2.2.2.2.2.1.length : Int) = 0 then ((corebanklaw19_live.f).bind fun t513 => (some t513)) else (some false)) else (some false)))) = some true := by rw [if_neg (show ¬ (false = true) by decide)] at H; exact H
    clear H
    have H := H1
    clear H1
    replace H := Option.bind_eq_some_iff.mp H
    obtain ⟨⟨t485, t486, t487, t488, t489, t490, t491, t492, t493, t496, t497⟩, A210, H⟩ := H
    try dsimp only at H
    have A21 := Aside0.mk A210
    clear A210
    by_cases c22 : t497 = 0
    ·rw [if_pos c22] at H
     have c22b0 : (t497 == 0) = true := beq_iff_eq.mpr c22
     have c22b1 : (t497 != 0) = false := bne_eq_false_iff_eq.mpr c22
     clear c22
     obtain ⟨y499, hy499⟩ : ∃ y_ : List (S46), y_ = (([] : List (S46))) := ⟨_, rfl⟩
     replace H : (if y499.length + l0_8.length < 4398046511104 then ((some (y499 ++ l0_8 : List (S46))).bind fun y502 => (if y502.length + t493.length < 4398046511104 then ((entry_Net.f (y502 ++ t493)).bind fun t508 => (if (t508.length : Int) = 0 then ((entry_Check.f kj3 t485 t486 t487 t488 t489 t490 t491 t492 t493 t496).bind fun t511 => (if t511 = 0 then (if t487 = a0_2 then (if t486 = a2 then (if t491.toList = a1.toList then ((corebanklaw19_live.f).bind fun t512 => (some t512)) else (some false)) else (some false)) else (some false)) else (some false))) else (some false))) else (none))) else (none)) = some true := by first | (rw [hy499]; with_reducible exact H) | (have H2_ := (Option.bind_some _ _).symm.trans H; rw [hy499]; with_reducible exact H2_) | (have H2_ := (Option.bind_some _ _).symm.trans H; with_reducible exact H2_) | with_reducible exact H | (rw [hy499]; exact H) | exact H
     have Ny499 := Aside0.mk hy499
     clear hy499
     by_cases c23 : y499.length + l0_8.length < 4398046511104
     case neg =>
      rw [if_neg c23] at H
      exact absurd H (by simp)
     rw [if_pos c23] at H
     have LMc23 := Aside0.mk c23
     clear c23
     obtain ⟨y502, hy502⟩ : ∃ y_ : List (S46), y_ = (y499 ++ l0_8) := ⟨_, rfl⟩
     replace H : (if y502.length + t493.length < 4398046511104 then ((entry_Net.f (y502 ++ t493)).bind fun t508 => (if (t508.length : Int) = 0 then ((entry_Check.f kj3 t485 t486 t487 t488 t489 t490 t491 t492 t493 t496).bind fun t511 => (if t511 = 0 then (if t487 = a0_2 then (if t486 = a2 then (if t491.toList = a1.toList then ((corebanklaw19_live.f).bind fun t512 => (some t512)) else (some false)) else (some false)) else (some false)) else (some false))) else (some false))) else (none)) = some true := by first | (rw [hy502]; with_reducible exact H) | (have H2_ := (Option.bind_some _ _).symm.trans H; rw [hy502]; with_reducible exact H2_) | (have H2_ := (Option.bind_some _ _).symm.trans H; with_reducible exact H2_) | with_reducible exact H | (rw [hy502]; exact H) | exact H
     have Ny502 := Aside0.mk hy502
     clear hy502
     by_cases c24 : y502.length + t493.length < 4398046511104
     case neg =>
      rw [if_neg c24] at H
      exact absurd H (by simp)
     rw [if_pos c24] at H
     have LMc24 := Aside0.mk c24
     clear c24
     obtain ⟨y505, hy505⟩ : ∃ y_ : List (S46), y_ = (y502 ++ t493) := ⟨_, rfl⟩
     replace H : ((entry_Net.f y505).bind fun t508 => (if (t508.length : Int) = 0 then ((entry_Check.f kj3 t485 t486 t487 t488 t489 t490 t491 t492 t493 t496).bind fun t511 => (if t511 = 0 then (if t487 = a0_2 then (if t486 = a2 then (if t491.toList = a1.toList then ((corebanklaw19_live.f).bind fun t512 => (some t512)) else (some false)) else (some false)) else (some false)) else (some false))) else (some false))) = some true := by first | (rw [hy505]; with_reducible exact H) | (have H2_ := (Option.bind_some _ _).symm.trans H; rw [hy505]; with_reducible exact H2_) | (have H2_ := (Option.bind_some _ _).symm.trans H; with_reducible exact H2_) | with_reducible exact H | (rw [hy505]; exact H) | exact H
     have Ny505 := Aside0.mk hy505
     clear hy505
     replace H := Option.bind_eq_some_iff.mp H
     obtain ⟨t508, A250, H⟩ := H
     replace H : (if (t508.length : Int) = 0 then ((entry_Check.f kj3 t485 t486 t487 t488 t489 t490 t491 t492 t493 t496).bind fun t511 => (if t511 = 0 then (if t487 = a0_2 then (if t486 = a2 then (if t491.toList = a1.toList then ((corebanklaw19_live.f).bind fun t512 => (some t512)) else (some false)) else (some false)) else (some false)) else (some false))) else (some false)) = some true := H
     have A25 := Aside0.mk A250
     clear A250
     by_cases c26 : (t508.length : Int) = 0
     case neg =>
      rw [if_neg c26] at H
      exact absurd H (by simp)
     rw [if_pos c26] at H
     have c26b0 : ((t508.length : Int) == 0) = true := beq_iff_eq.mpr c26
     have c26b1 : ((t508.length : Int) != 0) = false := bne_eq_false_iff_eq.mpr c26
     clear c26
     replace H := Option.bind_eq_some_iff.mp H
     obtain ⟨t511, A270, H⟩ := H
     replace H : (if t511 = 0 then (if t487 = a0_2 then (if t486 = a2 then (if t491.toList = a1.toList then ((corebanklaw19_live.f).bind fun t512 => (some t512)) else (some false)) else (some false)) else (some false)) else (some false)) = some true := H
     have A27 := Aside0.mk A270
     clear A270
     by_cases c28 : t511 = 0
     case neg =>
      rw [if_neg c28] at H
      exact absurd H (by simp)
     rw [if_pos c28] at H
     have c28b0 : (t511 == 0) = true := beq_iff_eq.mpr c28
     have c28b1 : (t511 != 0) = false := bne_eq_false_iff_eq.mpr c28
     clear c28
     by_cases c29 : t487 = a0_2
     case neg =>
      rw [if_neg c29] at H
      exact absurd H (by simp)
     rw [if_pos c29] at H
     have c29b0 : (t487 == a0_2) = true := beq_iff_eq.mpr c29
     have c29b1 : (t487 != a0_2) = false := bne_eq_false_iff_eq.mpr c29
     clear c29
     by_cases c30 : t486 = a2
     case neg =>
      rw [if_neg c30] at H
      exact absurd H (by simp)
     rw [if_pos c30] at H
     have c30b0 : (t486 == a2) = true := beq_iff_eq.mpr c30
     have c30b1 : (t486 != a2) = false := bne_eq_false_iff_eq.mpr c30
     clear c30
     by_cases c31 : t491.toList = a1.toList
     case neg =>
      rw [if_neg c31] at H
      exact absurd H (by simp)
     rw [if_pos c31] at H
     have c31b0 : (t491.toList == a1.toList) = true := beq_iff_eq.mpr c31
     have c31b1 : (t491.toList != a1.toList) = false := bne_eq_false_iff_eq.mpr c31
     clear c31
     replace H := Option.bind_eq_some_iff.mp H
     obtain ⟨t512, A320, H⟩ := H
     replace H : (some t512) = some true := H
     have A32 := Aside0.mk A320
     clear A320
     have hr_ : t512 = true := Option.some.inj H
     have hcz33_0 : wc.cell? ⟨gb481, 0, none⟩ = some (.int .i64 a0_0) := (blk_cell BK481.out 0).trans rfl
     have hcz33_1 : wc.cell? ⟨gb481, 1, none⟩ = some (.int .i64 a0_1) := (blk_cell BK481.out 1).trans rfl
     have hcz33_2 : wc.cell? ⟨gb481, 2, none⟩ = some (.int .i64 a0_2) := (blk_cell BK481.out 2).trans rfl
     have hcz33_3 : wc.cell? ⟨gb481, 3, none⟩ = some (.int .i64 a0_3) := (blk_cell BK481.out 3).trans rfl
     have hcz33_4 : wc.cell? ⟨gb481, 4, none⟩ = some (.int .i64 a0_4) := (blk_cell BK481.out 4).trans rfl
     have hcz33_5 : wc.cell? ⟨gb481, 5, none⟩ = some (.int .i64 a0_5) := (blk_cell BK481.out 5).trans rfl
     have hcz33_6 : wc.cell? ⟨gb481, 6, none⟩ = some (.string a0_6) := (blk_cell BK481.out 6).trans rfl
     have hcz33_7 : wc.cell? ⟨gb481, 7, none⟩ = some (.string a0_7) := (blk_cell BK481.out 7).trans rfl
     have hcz33_8 : wc.cell? ⟨gb481, 8, none⟩ = some (.slice A0_8 l0_8.length c0_8) := (blk_cell BK481.out 8).trans rfl
     have hcz33_9 : wc.cell? ⟨gb481, 9, none⟩ = some (.int .u64 a0_9) := (blk_cell BK481.out 9).trans rfl
     have hfz33_0 := blk_frozen BK481.out 0
     have hfz33_1 := blk_frozen BK481.out 1
     have hfz33_2 := blk_frozen BK481.out 2
     have hfz33_3 := blk_frozen BK481.out 3
     have hfz33_4 := blk_frozen BK481.out 4
     have hfz33_5 := blk_frozen BK481.out 5
     have hfz33_6 := blk_frozen BK481.out 6
     have hfz33_7 := blk_frozen BK481.out 7
     have hfz33_8 := blk_frozen BK481.out 8
     have hfz33_9 := blk_frozen BK481.out 9
     try go_wp2_with (first | ((with_reducible refine gate_callee (f := 20) rfl ?_); refine goesL_ (some 27) rfl rfl Tryd.func20 (by kernel_rfl) rfl #[.agg #[.int .i64 a0_0, .int .i64 a0_1, .int .i64 a0_2, .int .i64 a0_3, .int .i64 a0_4, .int .i64 a0_5, .string a0_6, .string a0_7, .slice A0_8 l0_8.length c0_8, .int .u64 a0_9], .string a1, .int .i64 a2] rfl (by (try simp only [List.map_toArray, List.map_cons, List.map_nil]); first | done | rfl | (simp only [List.length_drop, List.length_take]; rfl)) ?_; (with_reducible refine (entry_Reverse.calls a0_0 a0_1 a0_2 a0_3 a0_4 a0_5 a0_6 a0_7 _ _ l0_8 a0_9 a1 a2 t485 t486 t487 t488 t489 t490 t491 t492 t493 t496 t497 _ ?side1 ?side2 A21.out).mono ?_); (case side1 => repeat (first | exact (Kd.C_below HR0_8.out HB.out) | (with_reducible refine Kd.C_alloc ?_ _) | (with_reducible refine Kd.C_drewN ?_ _) | (with_reducible refine Kd.C_drew ?_))); (case side2 => exact HC0_8.out); rintro e w34 ⟨v494, rfl, ho0, hb⟩; refine ⟨_, rfl, ?_⟩; have n0_ := Aside0.mk (Kd.R_lower ho0 (below_size (by repeat (first | (with_reducible first | exact HB.out | apply below_alloc | apply pw_below_drewN | apply below_drew1 | refine below_set ?_ GE481.out) | exact HB.out)))); have n1_ := Aside0.mk (blk_below (g := gb481) (o := .cells #[.int .i64 a0_0, .int .i64 a0_1, .int .i64 a0_2, .int .i64 a0_3, .int .i64 a0_4, .int .i64 a0_5, .string a0_6, .string a0_7, .slice A0_8 l0_8.length c0_8, .int .u64 a0_9] 25 (0, 0)) (by (with_reducible repeat (first | refine blk_drewN ?_ _ | refine blk_drew ?_ | refine blk_alloc ?_ _)); exact BK481.out) hb); have n2_ := Aside0.mk (below_step (by repeat (first | (with_reducible first | exact HB.out | apply below_alloc | apply pw_below_drewN | apply below_drew1 | refine below_set ?_ GE481.out) | exact HB.out)) hb); clear BK481; clear HB; have HO495 := n0_; have BK481 := n1_; have HB := n2_; clear n0_ n1_ n2_; (try clear hb); (try clear hb2); (try clear hk); (try clear hi); (try clear ho0)) | ((with_reducible refine gate_dst (N := 7) rfl ?_); (try (refine gate_guard (by rfl) ?_; dsimp only)); refine box_event ?hg (N := 7) ?hd (cs := #[.int .i64 0, .int .i64 0, .int .i64 0, .int .i64 0, .int .i64 0, .int .i64 0, .string (⟨#[]⟩ : ByteArray), .string (⟨#[]⟩ : ByteArray), .slice none 0 0, .int .u64 0]) (t := 25) ?hr ?_; (case hd => rfl); (case hg => rfl); (case hr => first | (go_simp; done) | (go_simp; rfl)); intro gb498 hg w35 hbox hb; have n0_ := Aside0.mk (Kd.R_below (by (with_reducible repeat (first | apply Kd.R_alloc | apply Kd.R_drewN | apply Kd.R_drew)); exact HO495.out) hb); have n1_ := Aside0.mk (blk_below (g := gb481) (o := .cells #[.int .i64 a0_0, .int .i64 a0_1, .int .i64 a0_2, .int .i64 a0_3, .int .i64 a0_4, .int .i64 a0_5, .string a0_6, .string a0_7, .slice A0_8 l0_8.length c0_8, .int .u64 a0_9] 25 (0, 0)) (by (with_reducible repeat (first | refine blk_drewN ?_ _ | refine blk_drew ?_ | refine blk_alloc ?_ _)); exact BK481.out) hb); have n2_ := Aside0.mk (below_step (by repeat (first | (with_reducible first | exact HB.out | apply below_alloc | apply pw_below_drewN | apply below_drew1 | refine below_set ?_ GE481.out) | exact HB.out)) hb); have n3_ := Aside0.mk (hbox); have n4_ := Aside0.mk ((by rw [hg]; exact (below_size (by repeat (first | (with_reducible first | exact HB.out | apply below_alloc | apply pw_below_drewN | apply below_drew1 | refine below_set ?_ GE481.out) | exact HB.out))) : w.heap.size ≤ gb498)); have n5_ := Aside0.mk ((by rw [hg]; exact (below_size (by repeat (first | (with_reducible first | exact HB.out | apply below_alloc | apply pw_below_drewN | apply below_drew1 | refine below_set ?_ GE481.out) | exact HB.out))) : w.heap.size ≤ gb498)); have n6_ := Aside0.mk ((by rw [hg]; exact Nat.ne_of_lt (blk_lt (g := gb481) (o := .cells #[.int .i64 a0_0, .int .i64 a0_1, .int .i64 a0_2, .int .i64 a0_3, .int .i64 a0_4, .int .i64 a0_5, .string a0_6, .string a0_7, .slice A0_8 l0_8.length c0_8, .int .u64 a0_9] 25 (0, 0)) (by (with_reducible repeat (first | refine blk_drewN ?_ _ | refine blk_drew ?_ | refine blk_alloc ?_ _)); exact BK481.out)) : gb481 ≠ gb498)); have n7_ := Aside0.mk ((by rw [hg]; exact Nat.ne_of_gt (blk_lt (g := gb481) (o := .cells #[.int .i64 a0_0, .int .i64 a0_1, .int .i64 a0_2, .int .i64 a0_3, .int .i64 a0_4, .int .i64 a0_5, .string a0_6, .string a0_7, .slice A0_8 l0_8.length c0_8, .int .u64 a0_9] 25 (0, 0)) (by (with_reducible repeat (first | refine blk_drewN ?_ _ | refine blk_drew ?_ | refine blk_alloc ?_ _)); exact BK481.out)) : gb498 ≠ gb481)); clear HO495; clear BK481; clear HB; have HO495 := n0_; have BK481 := n1_; have HB := n2_; have BK498 := n3_; have GW498 := n4_; have GE498 := n5_; have NB481_498 := n6_; have NB498_481 := n7_; clear n0_ n1_ n2_ n3_ n4_ n5_ n6_ n7_; clear hb hbox hg; have hnb36 := NB498_481.out; have hnc36 := NB481_498.out; have hcz37_0 : w35.cell? ⟨gb498, 0, none⟩ = some (.int .i64 0) := (blk_cell BK498.out 0).trans rfl; have hcz37_1 : w35.cell? ⟨gb498, 1, none⟩ = some (.int .i64 0) := (blk_cell BK498.out 1).trans rfl; have hcz37_2 : w35.cell? ⟨gb498, 2, none⟩ = some (.int .i64 0) := (blk_cell BK498.out 2).trans rfl; have hcz37_3 : w35.cell? ⟨gb498, 3, none⟩ = some (.int .i64 0) := (blk_cell BK498.out 3).trans rfl; have hcz37_4 : w35.cell? ⟨gb498, 4, none⟩ = some (.int .i64 0) := (blk_cell BK498.out 4).trans rfl; have hcz37_5 : w35.cell? ⟨gb498, 5, none⟩ = some (.int .i64 0) := (blk_cell BK498.out 5).trans rfl; have hcz37_6 : w35.cell? ⟨gb498, 6, none⟩ = some (.string (⟨#[]⟩ : ByteArray)) := (blk_cell BK498.out 6).trans rfl; have hcz37_7 : w35.cell? ⟨gb498, 7, none⟩ = some (.string (⟨#[]⟩ : ByteArray)) := (blk_cell BK498.out 7).trans rfl; have hcz37_8 : w35.cell? ⟨gb498, 8, none⟩ = some (.slice none 0 0) := (blk_cell BK498.out 8).trans rfl; have hcz37_9 : w35.cell? ⟨gb498, 9, none⟩ = some (.int .u64 0) := (blk_cell BK498.out 9).trans rfl; have hfz37_0 := blk_frozen BK498.out 0; have hfz37_1 := blk_frozen BK498.out 1; have hfz37_2 := blk_frozen BK498.out 2; have hfz37_3 := blk_frozen BK498.out 3; have hfz37_4 := blk_frozen BK498.out 4; have hfz37_5 := blk_frozen BK498.out 5; have hfz37_6 := blk_frozen BK498.out 6; have hfz37_7 := blk_frozen BK498.out 7; have hfz37_8 := blk_frozen BK498.out 8; have hfz37_9 := blk_frozen BK498.out 9; obtain ⟨Ao38, co38, eo38⟩ := Kd.R_slice HO495.out; subst eo38))
     have n0_ : Aside0 (Kd.R k46 46 ((((((((((w35.setCell ⟨gb498, 0, none⟩ (.int .i64 t485)).setCell ⟨gb498, 1, none⟩ (.int .i64 t486)).setCell ⟨gb498, 2, none⟩ (.int .i64 t487)).setCell ⟨gb498, 3, none⟩ (.int .i64 t488)).setCell ⟨gb498, 4, none⟩ (.int .i64 t489)).setCell ⟨gb498, 5, none⟩ (.int .i64 t490)).setCell ⟨gb498, 6, none⟩ (.string t491)).setCell ⟨gb498, 7, none⟩ (.string t492)).setCell ⟨gb498, 8, none⟩ (.slice Ao38 t493.length co38)).setCell ⟨gb498, 9, none⟩ (.int .u64 t496)) w.heap.size (fun _ => True) (.slice Ao38 t493.length co38) t493) := ⟨by (with_reducible repeat (first | apply Kd.R_alloc | apply Kd.R_drewN | apply Kd.R_drew)); exact Kd.R_mono (Kd.R_far (p := ⟨gb498, 9, none⟩) (Kd.R_far (p := ⟨gb498, 8, none⟩) (Kd.R_far (p := ⟨gb498, 7, none⟩) (Kd.R_far (p := ⟨gb498, 6, none⟩) (Kd.R_far (p := ⟨gb498, 5, none⟩) (Kd.R_far (p := ⟨gb498, 4, none⟩) (Kd.R_far (p := ⟨gb498, 3, none⟩) (Kd.R_far (p := ⟨gb498, 2, none⟩) (Kd.R_far (p := ⟨gb498, 1, none⟩) (Kd.R_far (p := ⟨gb498, 0, none⟩) (Kd.R_types HO495.out BK498.out (by decide)) (fun _ hk => hk.2) (.int .i64 t485)) (fun _ hk => hk.2) (.int .i64 t486)) (fun _ hk => hk.2) (.int .i64 t487)) (fun _ hk => hk.2) (.int .i64 t488)) (fun _ hk => hk.2) (.int .i64 t489)) (fun _ hk => hk.2) (.int .i64 t490)) (fun _ hk => hk.2) (.string t491)) (fun _ hk => hk.2) (.string t492)) (fun _ hk => hk.2) (.slice Ao38 t493.length co38)) (fun _ hk => hk.2) (.int .u64 t496)) (fun _ hk => trivial)⟩
     have n1_ : Aside0 (((((((((((w35.setCell ⟨gb498, 0, none⟩ (.int .i64 t485)).setCell ⟨gb498, 1, none⟩ (.int .i64 t486)).setCell ⟨gb498, 2, none⟩ (.int .i64 t487)).setCell ⟨gb498, 3, none⟩ (.int .i64 t488)).setCell ⟨gb498, 4, none⟩ (.int .i64 t489)).setCell ⟨gb498, 5, none⟩ (.int .i64 t490)).setCell ⟨gb498, 6, none⟩ (.string t491)).setCell ⟨gb498, 7, none⟩ (.string t492)).setCell ⟨gb498, 8, none⟩ (.slice Ao38 t493.length co38)).setCell ⟨gb498, 9, none⟩ (.int .u64 t496)).heap[gb481]? = some (.cells #[.int .i64 a0_0, .int .i64 a0_1, .int .i64 a0_2, .int .i64 a0_3, .int .i64 a0_4, .int .i64 a0_5, .string a0_6, .string a0_7, .slice A0_8 l0_8.length c0_8, .int .u64 a0_9] 25 (0, 0))) := ⟨by (with_reducible repeat (first | refine blk_drewN ?_ _ | refine blk_drew ?_ | refine blk_alloc ?_ _)); refine blk_far ?_ NB481_498.out _; (with_reducible repeat (first | refine blk_drewN ?_ _ | refine blk_drew ?_ | refine blk_alloc ?_ _)); refine blk_far ?_ NB481_498.out _; (with_reducible repeat (first | refine blk_drewN ?_ _ | refine blk_drew ?_ | refine blk_alloc ?_ _)); refine blk_far ?_ NB481_498.out _; (with_reducible repeat (first | refine blk_drewN ?_ _ | refine blk_drew ?_ | refine blk_alloc ?_ _)); refine blk_far ?_ NB481_498.out _; (with_reducible repeat (first | refine blk_drewN ?_ _ | refine blk_drew ?_ | refine blk_alloc ?_ _)); refine blk_far ?_ NB481_498.out _; (with_reducible repeat (first | refine blk_drewN ?_ _ | refine blk_drew ?_ | refine blk_alloc ?_ _)); refine blk_far ?_ NB481_498.out _; (with_reducible repeat (first | refine blk_drewN ?_ _ | refine blk_drew ?_ | refine blk_alloc ?_ _)); refine blk_far ?_ NB481_498.out _; (with_reducible repeat (first | refine blk_drewN ?_ _ | refine blk_drew ?_ | refine blk_alloc ?_ _)); refine blk_far ?_ NB481_498.out _; (with_reducible repeat (first | refine blk_drewN ?_ _ | refine blk_drew ?_ | refine blk_alloc ?_ _)); refine blk_far ?_ NB481_498.out _; (with_reducible repeat (first | refine blk_drewN ?_ _ | refine blk_drew ?_ | refine blk_alloc ?_ _)); refine blk_far ?_ NB481_498.out _; (with_reducible repeat (first | refine blk_drewN ?_ _ | refine blk_drew ?_ | refine blk_alloc ?_ _)); exact BK481.out⟩
     have n2_ : Aside0 (((((((((((w35.setCell ⟨gb498, 0, none⟩ (.int .i64 t485)).setCell ⟨gb498, 1, none⟩ (.int .i64 t486)).setCell ⟨gb498, 2, none⟩ (.int .i64 t487)).setCell ⟨gb498, 3, none⟩ (.int .i64 t488)).setCell ⟨gb498, 4, none⟩ (.int .i64 t489)).setCell ⟨gb498, 5, none⟩ (.int .i64 t490)).setCell ⟨gb498, 6, none⟩ (.string t491)).setCell ⟨gb498, 7, none⟩ (.string t492)).setCell ⟨gb498, 8, none⟩ (.slice Ao38 t493.length co38)).setCell ⟨gb498, 9, none⟩ (.int .u64 t496)).heap[gb498]? = some (.cells #[.int .i64 t485, .int .i64 t486, .int .i64 t487, .int .i64 t488, .int .i64 t489, .int .i64 t490, .string t491, .string t492, .slice Ao38 t493.length co38, .int .u64 t496] 25 (0, 0))) := ⟨by (with_reducible repeat (first | refine blk_drewN ?_ _ | refine blk_drew ?_ | refine blk_alloc ?_ _)); refine blk_put (cs := #[.int .i64 t485, .int .i64 t486, .int .i64 t487, .int .i64 t488, .int .i64 t489, .int .i64 t490, .string t491, .string t492, .slice Ao38 t493.length co38, .int .u64 0]) ?_ 9 _ rfl; (with_reducible repeat (first | refine blk_drewN ?_ _ | refine blk_drew ?_ | refine blk_alloc ?_ _)); refine blk_put (cs := #[.int .i64 t485, .int .i64 t486, .int .i64 t487, .int .i64 t488, .int .i64 t489, .int .i64 t490, .string t491, .string t492, .slice none 0 0, .int .u64 0]) ?_ 8 _ rfl; (with_reducible repeat (first | refine blk_drewN ?_ _ | refine blk_drew ?_ | refine blk_alloc ?_ _)); refine blk_put (cs := #[.int .i64 t485, .int .i64 t486, .int .i64 t487, .int .i64 t488, .int .i64 t489, .int .i64 t490, .string t491, .string (⟨#[]⟩ : ByteArray), .slice none 0 0, .int .u64 0]) ?_ 7 _ rfl; (with_reducible repeat (first | refine blk_drewN ?_ _ | refine blk_drew ?_ | refine blk_alloc ?_ _)); refine blk_put (cs := #[.int .i64 t485, .int .i64 t486, .int .i64 t487, .int .i64 t488, .int .i64 t489, .int .i64 t490, .string (⟨#[]⟩ : ByteArray), .string (⟨#[]⟩ : ByteArray), .slice none 0 0, .int .u64 0]) ?_ 6 _ rfl; (with_reducible repeat (first | refine blk_drewN ?_ _ | refine blk_drew ?_ | refine blk_alloc ?_ _)); refine blk_put (cs := #[.int .i64 t485, .int .i64 t486, .int .i64 t487, .int .i64 t488, .int .i64 t489, .int .i64 0, .string (⟨#[]⟩ : ByteArray), .string (⟨#[]⟩ : ByteArray), .slice none 0 0, .int .u64 0]) ?_ 5 _ rfl; (with_reducible repeat (first | refine blk_drewN ?_ _ | refine blk_drew ?_ | refine blk_alloc ?_ _)); refine blk_put (cs := #[.int .i64 t485, .int .i64 t486, .int .i64 t487, .int .i64 t488, .int .i64 0, .int .i64 0, .string (⟨#[]⟩ : ByteArray), .string (⟨#[]⟩ : ByteArray), .slice none 0 0, .int .u64 0]) ?_ 4 _ rfl; (with_reducible repeat (first | refine blk_drewN ?_ _ | refine blk_drew ?_ | refine blk_alloc ?_ _)); refine blk_put (cs := #[.int .i64 t485, .int .i64 t486, .int .i64 t487, .int .i64 0, .int .i64 0, .int .i64 0, .string (⟨#[]⟩ : ByteArray), .string (⟨#[]⟩ : ByteArray), .slice none 0 0, .int .u64 0]) ?_ 3 _ rfl; (with_reducible repeat (first | refine blk_drewN ?_ _ | refine blk_drew ?_ | refine blk_alloc ?_ _)); refine blk_put (cs := #[.int .i64 t485, .int .i64 t486, .int .i64 0, .int .i64 0, .int .i64 0, .int .i64 0, .string (⟨#[]⟩ : ByteArray), .string (⟨#[]⟩ : ByteArray), .slice none 0 0, .int .u64 0]) ?_ 2 _ rfl; (with_reducible repeat (first | refine blk_drewN ?_ _ | refine blk_drew ?_ | refine blk_alloc ?_ _)); refine blk_put (cs := #[.int .i64 t485, .int .i64 0, .int .i64 0, .int .i64 0, .int .i64 0, .int .i64 0, .string (⟨#[]⟩ : ByteArray), .string (⟨#[]⟩ : ByteArray), .slice none 0 0, .int .u64 0]) ?_ 1 _ rfl; (with_reducible repeat (first | refine blk_drewN ?_ _ | refine blk_drew ?_ | refine blk_alloc ?_ _)); refine blk_put (cs := #[.int .i64 0, .int .i64 0, .int .i64 0, .int .i64 0, .int .i64 0, .int .i64 0, .string (⟨#[]⟩ : ByteArray), .string (⟨#[]⟩ : ByteArray), .slice none 0 0, .int .u64 0]) ?_ 0 _ rfl; (with_reducible repeat (first | refine blk_drewN ?_ _ | refine blk_drew ?_ | refine blk_alloc ?_ _)); exact BK498.out⟩
     have n3_ : Aside0 (Below w.heap.size w ((((((((((w35.setCell ⟨gb498, 0, none⟩ (.int .i64 t485)).setCell ⟨gb498, 1, none⟩ (.int .i64 t486)).setCell ⟨gb498, 2, none⟩ (.int .i64 t487)).setCell ⟨gb498, 3, none⟩ (.int .i64 t488)).setCell ⟨gb498, 4, none⟩ (.int .i64 t489)).setCell ⟨gb498, 5, none⟩ (.int .i64 t490)).setCell ⟨gb498, 6, none⟩ (.string t491)).setCell ⟨gb498, 7, none⟩ (.string t492)).setCell ⟨gb498, 8, none⟩ (.slice Ao38 t493.length co38)).setCell ⟨gb498, 9, none⟩ (.int .u64 t496))) := ⟨by repeat (first | (with_reducible first | exact HB.out | apply below_alloc | apply pw_below_drewN | apply below_drew1 | refine below_set ?_ GE481.out | refine below_set ?_ GE498.out) | exact HB.out)⟩
     (try clear HO495)
     (try clear BK481)
     (try clear BK498)
     (try clear HB)
     generalize ((((((((((w35.setCell ⟨gb498, 0, none⟩ (.int .i64 t485)).setCell ⟨gb498, 1, none⟩ (.int .i64 t486)).setCell ⟨gb498, 2, none⟩ (.int .i64 t487)).setCell ⟨gb498, 3, none⟩ (.int .i64 t488)).setCell ⟨gb498, 4, none⟩ (.int .i64 t489)).setCell ⟨gb498, 5, none⟩ (.int .i64 t490)).setCell ⟨gb498, 6, none⟩ (.string t491)).setCell ⟨gb498, 7, none⟩ (.string t492)).setCell ⟨gb498, 8, none⟩ (.slice Ao38 t493.length co38)).setCell ⟨gb498, 9, none⟩ (.int .u64 t496)) = w39 at n0_ n1_ n2_ n3_ ⊢
     have HO495 := n0_
     have BK481 := n1_
     have BK498 := n2_
     have HB := n3_
     clear n0_ n1_ n2_ n3_
     have n0_ := Aside0.mk (Kd.R_drew HO495.out)
     have n1_ := Aside0.mk (blk_drew BK481.out)
     have n2_ := Aside0.mk (blk_drew BK498.out)
     have n3_ := Aside0.mk (below_drew1 HB.out)
     clear HO495
     clear BK481
     clear BK498
     clear HB
     have HO495 := n0_
     have BK481 := n1_
     have BK498 := n2_
     have HB := n3_
     clear n0_ n1_ n2_ n3_
     refine start_ (n := 8) (S := fun w' => w'.cell? ⟨gb481, 0, none⟩ = some (.int .i64 a0_0) ∧ w'.cell? ⟨gb481, 1, none⟩ = some (.int .i64 a0_1) ∧ w'.cell? ⟨gb481, 2, none⟩ = some (.int .i64 a0_2) ∧ w'.cell? ⟨gb481, 3, none⟩ = some (.int .i64 a0_3) ∧ w'.cell? ⟨gb481, 4, none⟩ = some (.int .i64 a0_4) ∧ w'.cell? ⟨gb481, 5, none⟩ = some (.int .i64 a0_5) ∧ w'.cell? ⟨gb481, 6, none⟩ = some (.string a0_6) ∧ w'.cell? ⟨gb481, 7, none⟩ = some (.string a0_7) ∧ w'.cell? ⟨gb481, 8, none⟩ = some (.slice A0_8 l0_8.length c0_8) ∧ w'.cell? ⟨gb481, 9, none⟩ = some (.int .u64 a0_9) ∧ w'.cell? ⟨gb498, 0, none⟩ = some (.int .i64 t485) ∧ w'.cell? ⟨gb498, 1, none⟩ = some (.int .i64 t486) ∧ w'.cell? ⟨gb498, 2, none⟩ = some (.int .i64 t487) ∧ w'.cell? ⟨gb498, 3, none⟩ = some (.int .i64 t488) ∧ w'.cell? ⟨gb498, 4, none⟩ = some (.int .i64 t489) ∧ w'.cell? ⟨gb498, 5, none⟩ = some (.int .i64 t490) ∧ w'.cell? ⟨gb498, 6, none⟩ = some (.string t491) ∧ w'.cell? ⟨gb498, 7, none⟩ = some (.string t492) ∧ w'.cell? ⟨gb498, 8, none⟩ = some (.slice Ao38 t493.length co38) ∧ w'.cell? ⟨gb498, 9, none⟩ = some (.int .u64 t496)) (ds := []) #[false, false, false, false, false, false, false, false] (by kernel_rfl) rfl rfl ⟨(blk_cell BK481.out 0).trans rfl, (blk_cell BK481.out 1).trans rfl, (blk_cell BK481.out 2).trans rfl, (blk_cell BK481.out 3).trans rfl, (blk_cell BK481.out 4).trans rfl, (blk_cell BK481.out 5).trans rfl, (blk_cell BK481.out 6).trans rfl, (blk_cell BK481.out 7).trans rfl, (blk_cell BK481.out 8).trans rfl, (blk_cell BK481.out 9).trans rfl, (blk_cell BK498.out 0).trans rfl, (blk_cell BK498.out 1).trans rfl, (blk_cell BK498.out 2).trans rfl, (blk_cell BK498.out 3).trans rfl, (blk_cell BK498.out 4).trans rfl, (blk_cell BK498.out 5).trans rfl, (blk_cell BK498.out 6).trans rfl, (blk_cell BK498.out 7).trans rfl, (blk_cell BK498.out 8).trans rfl, (blk_cell BK498.out 9).trans rfl⟩ (fun hHeld => ?_); refine with_tabW corebanklaw19_EntryReverses.tab6 corebanklaw19_EntryReverses.bits6 (fun HT_ HW_ => ?_)
     generalize w39.drew = w40 at HO495 BK481 BK498 HB hHeld ⊢
     refine pure_ (i := 1) (N := some 44) (v := ?_) (a' := ?_) #[false, true, false, false, false, false, false, false] rfl rfl (any_of HT_.out (by kernel_rfl)) (fun _ _ _ h => h) (Or.inl ⟨by rfl, ?_⟩) ?_ ?_
     rotate_left
     ·intro w'
      go_simp
      with_reducible rfl
     rotate_left
     ·simp only [Act.put, List.setIfInBounds_toArray, List.set_cons_zero, List.set_cons_succ, i64_w, i32_w]
      rfl
     refine pure_ (i := 4) (N := some 47) (v := ?_) (a' := ?_) #[false, true, false, false, true, false, false, false] rfl rfl (any_of HT_.out (by kernel_rfl)) (fun _ _ _ h => h) (Or.inl ⟨by rfl, ?_⟩) ?_ ?_
     rotate_left
     ·intro w'
      go_simp
      with_reducible rfl
     rotate_left
     ·simp only [Act.put, List.setIfInBounds_toArray, List.set_cons_zero, List.set_cons_succ, i64_w, i32_w]
      rfl
     refine take_ (i := 2) (N := some 45) (v := ?_) (a' := ?_) #[false, true, true, false, true, false, false, false] rfl rfl (take_ofW HT_.out HW_.out (by kernel_rfl)) (fun _ _ _ h => h) (Or.inl ⟨by rfl, ?_⟩) hHeld ?_ ?_
     rotate_left
     ·rintro w' ⟨s0, s1, s2, s3, s4, s5, s6, s7, s8, s9, s10, s11, s12, s13, s14, s15, s16, s17, s18, s19⟩
      go_simp
      with_reducible rfl
     rotate_left
     ·simp only [Act.put, List.setIfInBounds_toArray, List.set_cons_zero, List.set_cons_succ, i64_w, i32_w]
      rfl
     refine take_ (i := 5) (N := some 48) (v := ?_) (a' := ?_) #[false, true, true, false, true, true, false, false] rfl rfl (take_ofW HT_.out HW_.out (by kernel_rfl)) (fun _ _ _ h => h) (Or.inl ⟨by rfl, ?_⟩) hHeld ?_ ?_
     rotate_left
     ·rintro w' ⟨s0, s1, s2, s3, s4, s5, s6, s7, s8, s9, s10, s11, s12, s13, s14, s15, s16, s17, s18, s19⟩
      go_simp
      with_reducible rfl
     rotate_left
     ·simp only [Act.put, List.setIfInBounds_toArray, List.set_cons_zero, List.set_cons_succ, i64_w, i32_w]
      rfl
     refine one_ (i := 0) (N := some 43) #[true, true, true, false, true, true, false, false] rfl rfl (one_of HT_.out (by kernel_rfl)) (by decide) (fun K hK => ?_)
     refine Kd.R_lit_step k46 _ 46 ?hg (N := 43) ?hd (xs := ([] : List (S46))) (inner := []) (ok := fun _ => True) (okp := fun _ => True) ?hr ?hp (fun _ hk => hk) trivial (Below.refl _ _) (Nat.le_refl _) (by simp) ?_; (case hd => rfl); (case hg => rfl); (case hr => first | (go_simp; done) | (go_simp; rfl)); (case hp => exact (Reps.none _ _))
     intro v500 w41 ho42 hb hg_ hnew_
     clear hg_ hnew_
     (first | rw [← Ny499.out] at ho42 | (simp only [Int.reduceToNat] at ho42; rw [← Ny499.out] at ho42))
     have n0_ := Aside0.mk (Kd.R_elder' (by (with_reducible repeat (first | apply Kd.R_alloc | apply Kd.R_drewN | apply Kd.R_drew)); exact HO495.out) (Kd.R_base ho42) hb)
     have n1_ := Aside0.mk (Kd.R_lower (Kd.R_new' ho42 (Kd.R_lt (by (with_reducible repeat (first | apply Kd.R_alloc | apply Kd.R_drewN | apply Kd.R_drew)); exact HO495.out))) (below_size (by repeat (first | (with_reducible first | exact HB.out | apply below_alloc | apply pw_below_drewN | apply below_drew1 | refine below_set ?_ GE481.out | refine below_set ?_ GE498.out) | exact HB.out))))
     have n2_ := Aside0.mk (blk_below (g := gb481) (o := .cells #[.int .i64 a0_0, .int .i64 a0_1, .int .i64 a0_2, .int .i64 a0_3, .int .i64 a0_4, .int .i64 a0_5, .string a0_6, .string a0_7, .slice A0_8 l0_8.length c0_8, .int .u64 a0_9] 25 (0, 0)) (by (with_reducible repeat (first | refine blk_drewN ?_ _ | refine blk_drew ?_ | refine blk_alloc ?_ _)); exact BK481.out) hb)
     have n3_ := Aside0.mk (blk_below (g := gb498) (o := .cells #[.int .i64 t485, .int .i64 t486, .int .i64 t487, .int .i64 t488, .int .i64 t489, .int .i64 t490, .string t491, .string t492, .slice Ao38 t493.length co38, .int .u64 t496] 25 (0, 0)) (by (with_reducible repeat (first | refine blk_drewN ?_ _ | refine blk_drew ?_ | refine blk_alloc ?_ _)); exact BK498.out) hb)
     have n4_ := Aside0.mk (below_step (by repeat (first | (with_reducible first | exact HB.out | apply below_alloc | apply pw_below_drewN | apply below_drew1 | refine below_set ?_ GE481.out | refine below_set ?_ GE498.out) | exact HB.out)) hb)
     clear HO495
     clear BK481
     clear BK498
     clear HB
     have HO495 := n0_
     have HO501 := n1_
     have BK481 := n2_
     have BK498 := n3_
     have HB := n4_
     clear n0_ n1_ n2_ n3_ n4_
     clear hb ho42
     refine hK.out _ _ ⟨(blk_cell BK481.out 0).trans rfl, (blk_cell BK481.out 1).trans rfl, (blk_cell BK481.out 2).trans rfl, (blk_cell BK481.out 3).trans rfl, (blk_cell BK481.out 4).trans rfl, (blk_cell BK481.out 5).trans rfl, (blk_cell BK481.out 6).trans rfl, (blk_cell BK481.out 7).trans rfl, (blk_cell BK481.out 8).trans rfl, (blk_cell BK481.out 9).trans rfl, (blk_cell BK498.out 0).trans rfl, (blk_cell BK498.out 1).trans rfl, (blk_cell BK498.out 2).trans rfl, (blk_cell BK498.out 3).trans rfl, (blk_cell BK498.out 4).trans rfl, (blk_cell BK498.out 5).trans rfl, (blk_cell BK498.out 6).trans rfl, (blk_cell BK498.out 7).trans rfl, (blk_cell BK498.out 8).trans rfl, (blk_cell BK498.out 9).trans rfl⟩ (fun hHeld => ?_)
     clear hK K
     refine norm_ (a' := ?_) ?_ ?_
     rotate_left
     ·show Act.put _ (some 43) _ = _
      simp only [Act.put, List.setIfInBounds_toArray, List.set_cons_zero, List.set_cons_succ, i64_w, i32_w]
      rfl
     refine one_ (i := 3) (N := some 46) #[true, true, true, true, true, true, false, false] rfl rfl (one_of HT_.out (by kernel_rfl)) (by decide) (fun K hK => ?_)
     refine Kd.R_append_rows_step k46 (w0 := w) w.heap.size (by rfl) (.tmp 43) (.tmp 45) 22 46 (.agg #[(.int .i64 0), (.int .i64 0), (.string ⟨#[]⟩)]) 32 rfl Tryd.underlying22 info46 rfl (by decide) (by omega) v500 y499 l0_8 _ _ _ (fun k_ => some k_ ≠ (.slice Ao38 t493.length co38 : Value).ownBlock) (fun _ => False) rfl rfl ?aO ?aR (fun _ _ h => h) (fun _ h => h.elim) ?aF ?aB ?aS ?aL ?_
     (case aR => repeat (first | exact (Kd.C_below HR0_8.out HB.out) | (with_reducible refine Kd.C_alloc ?_ _) | (with_reducible refine Kd.C_drewN ?_ _) | (with_reducible refine Kd.C_drew ?_)))
     (case aB => exact (by repeat (first | (with_reducible first | exact HB.out | apply below_alloc | apply pw_below_drewN | apply below_drew1 | refine below_set ?_ GE481.out | refine below_set ?_ GE498.out) | exact HB.out)))
     (case aF => exact (fun k_ hk => Kd.fresh' (Kd.R_lt (by (with_reducible repeat (first | apply Kd.R_alloc | apply Kd.R_drewN | apply Kd.R_drew)); exact HO495.out)) k_ hk))
     (case aO => exact (by (with_reducible repeat (first | apply Kd.R_alloc | apply Kd.R_drewN | apply Kd.R_drew)); exact Kd.R_mono HO501.out (fun _ hk => hk.2)))
     (case aS => exact (below_size (by repeat (first | (with_reducible first | exact HB.out | apply below_alloc | apply pw_below_drewN | apply below_drew1 | refine below_set ?_ GE481.out | refine below_set ?_ GE498.out) | exact HB.out))))
     (case aL => have := LMc23.out; omega)
     intro v503 w43 ho hb hg hat
     rw [← Ny502.out] at ho
     have n0_ := Aside0.mk (blk_grown (g := gb481) (o := .cells #[.int .i64 a0_0, .int .i64 a0_1, .int .i64 a0_2, .int .i64 a0_3, .int .i64 a0_4, .int .i64 a0_5, .string a0_6, .string a0_7, .slice A0_8 l0_8.length c0_8, .int .u64 a0_9] 25 (0, 0)) (by (with_reducible repeat (first | refine blk_drewN ?_ _ | refine blk_drew ?_ | refine blk_alloc ?_ _)); exact BK481.out) hg (Kd.R_ne HO501.out BK481.out (by decide)))
     have n1_ := Aside0.mk (Kd.R_after (ok := (fun _ => True)) (by (with_reducible repeat (first | apply Kd.R_alloc | apply Kd.R_drewN | apply Kd.R_drew)); exact HO495.out) hg hat)
     have n2_ := Aside0.mk (blk_grown (g := gb498) (o := .cells #[.int .i64 t485, .int .i64 t486, .int .i64 t487, .int .i64 t488, .int .i64 t489, .int .i64 t490, .string t491, .string t492, .slice Ao38 t493.length co38, .int .u64 t496] 25 (0, 0)) (by (with_reducible repeat (first | refine blk_drewN ?_ _ | refine blk_drew ?_ | refine blk_alloc ?_ _)); exact BK498.out) hg (Kd.R_ne HO501.out BK498.out (by decide)))
     have n3_ := Aside0.mk (hb)
     have n4_ := Aside0.mk (ho)
     clear BK481
     clear HO495
     clear BK498
     clear HB
     clear HO501
     have BK481 := n0_
     have HO495 := n1_
     have BK498 := n2_
     have HB := n3_
     have HO504 := n4_
     clear n0_ n1_ n2_ n3_ n4_
     clear ho hb hg hat
     refine hK.out _ _ ⟨(blk_cell BK481.out 0).trans rfl, (blk_cell BK481.out 1).trans rfl, (blk_cell BK481.out 2).trans rfl, (blk_cell BK481.out 3).trans rfl, (blk_cell BK481.out 4).trans rfl, (blk_cell BK481.out 5).trans rfl, (blk_cell BK481.out 6).trans rfl, (blk_cell BK481.out 7).trans rfl, (blk_cell BK481.out 8).trans rfl, (blk_cell BK481.out 9).trans rfl, (blk_cell BK498.out 0).trans rfl, (blk_cell BK498.out 1).trans rfl, (blk_cell BK498.out 2).trans rfl, (blk_cell BK498.out 3).trans rfl, (blk_cell BK498.out 4).trans rfl, (blk_cell BK498.out 5).trans rfl, (blk_cell BK498.out 6).trans rfl, (blk_cell BK498.out 7).trans rfl, (blk_cell BK498.out 8).trans rfl, (blk_cell BK498.out 9).trans rfl⟩ (fun hHeld => ?_)
     clear hK K
     refine norm_ (a' := ?_) ?_ ?_
     rotate_left
     ·show Act.put _ (some 46) _ = _
      simp only [Act.put, List.setIfInBounds_toArray, List.set_cons_zero, List.set_cons_succ, i64_w, i32_w]
      rfl
     refine one_ (i := 6) (N := some 49) #[true, true, true, true, true, true, true, false] rfl rfl (one_of HT_.out (by kernel_rfl)) (by decide) (fun K hK => ?_)
     refine Kd.R_append_rows_step k46 (w0 := w) w.heap.size (by rfl) (.tmp 46) (.tmp 48) 22 46 (.agg #[(.int .i64 0), (.int .i64 0), (.string ⟨#[]⟩)]) 32 rfl Tryd.underlying22 info46 rfl (by decide) (by omega) v503 y502 t493 _ _ _ (fun k_ => some k_ ≠ (.slice Ao38 t493.length co38 : Value).ownBlock) (fun _ => False) rfl rfl ?aO ?aR (fun _ _ h => h) (fun _ h => h.elim) ?aF ?aB ?aS ?aL ?_
     (case aR => repeat (first | exact (Kd.R_reads' HO495.out).2.2 | (with_reducible refine Kd.C_alloc ?_ _) | (with_reducible refine Kd.C_drewN ?_ _) | (with_reducible refine Kd.C_drew ?_)))
     (case aB => exact (by repeat (first | (with_reducible first | exact HB.out | apply below_alloc | apply pw_below_drewN | apply below_drew1 | refine below_set ?_ GE481.out | refine below_set ?_ GE498.out) | exact HB.out)))
     (case aF => exact (fun k_ hk => Kd.fresh' (Kd.R_lt (by (with_reducible repeat (first | apply Kd.R_alloc | apply Kd.R_drewN | apply Kd.R_drew)); exact HO495.out)) k_ hk))
     (case aO => exact (by (with_reducible repeat (first | apply Kd.R_alloc | apply Kd.R_drewN | apply Kd.R_drew)); exact HO504.out))
     (case aS => exact (below_size (by repeat (first | (with_reducible first | exact HB.out | apply below_alloc | apply pw_below_drewN | apply below_drew1 | refine below_set ?_ GE481.out | refine below_set ?_ GE498.out) | exact HB.out))))
     (case aL => have := LMc24.out; omega)
     intro v506 w44 ho hb hg hat
     rw [← Ny505.out] at ho
     have n0_ := Aside0.mk (blk_grown (g := gb481) (o := .cells #[.int .i64 a0_0, .int .i64 a0_1, .int .i64 a0_2, .int .i64 a0_3, .int .i64 a0_4, .int .i64 a0_5, .string a0_6, .string a0_7, .slice A0_8 l0_8.length c0_8, .int .u64 a0_9] 25 (0, 0)) (by (with_reducible repeat (first | refine blk_drewN ?_ _ | refine blk_drew ?_ | refine blk_alloc ?_ _)); exact BK481.out) hg (Kd.R_ne HO504.out BK481.out (by decide)))
     have n1_ := Aside0.mk (Kd.R_after (ok := (fun _ => True)) (by (with_reducible repeat (first | apply Kd.R_alloc | apply Kd.R_drewN | apply Kd.R_drew)); exact HO495.out) hg hat)
     have n2_ := Aside0.mk (blk_grown (g := gb498) (o := .cells #[.int .i64 t485, .int .i64 t486, .int .i64 t487, .int .i64 t488, .int .i64 t489, .int .i64 t490, .string t491, .string t492, .slice Ao38 t493.length co38, .int .u64 t496] 25 (0, 0)) (by (with_reducible repeat (first | refine blk_drewN ?_ _ | refine blk_drew ?_ | refine blk_alloc ?_ _)); exact BK498.out) hg (Kd.R_ne HO504.out BK498.out (by decide)))
     have n3_ := Aside0.mk (hb)
     have n4_ := Aside0.mk (ho)
     clear BK481
     clear HO495
     clear BK498
     clear HB
     clear HO504
     have BK481 := n0_
     have HO495 := n1_
     have BK498 := n2_
     have HB := n3_
     have HO507 := n4_
     clear n0_ n1_ n2_ n3_ n4_
     clear ho hb hg hat
     refine hK.out _ _ ⟨(blk_cell BK481.out 0).trans rfl, (blk_cell BK481.out 1).trans rfl, (blk_cell BK481.out 2).trans rfl, (blk_cell BK481.out 3).trans rfl, (blk_cell BK481.out 4).trans rfl, (blk_cell BK481.out 5).trans rfl, (blk_cell BK481.out 6).trans rfl, (blk_cell BK481.out 7).trans rfl, (blk_cell BK481.out 8).trans rfl, (blk_cell BK481.out 9).trans rfl, (blk_cell BK498.out 0).trans rfl, (blk_cell BK498.out 1).trans rfl, (blk_cell BK498.out 2).trans rfl, (blk_cell BK498.out 3).trans rfl, (blk_cell BK498.out 4).trans rfl, (blk_cell BK498.out 5).trans rfl, (blk_cell BK498.out 6).trans rfl, (blk_cell BK498.out 7).trans rfl, (blk_cell BK498.out 8).trans rfl, (blk_cell BK498.out 9).trans rfl⟩ (fun hHeld => ?_)
     clear hK K
     refine norm_ (a' := ?_) ?_ ?_
     rotate_left
     ·show Act.put _ (some 49) _ = _
      simp only [Act.put, List.setIfInBounds_toArray, List.set_cons_zero, List.set_cons_succ, i64_w, i32_w]
      rfl
     refine pure_ (i := 7) (N := some 9) (v := ?_) (a' := ?_) #[true, true, true, true, true, true, true, true] rfl rfl (any_of HT_.out (by kernel_rfl)) (fun _ _ _ h => h) (Or.inl ⟨by rfl, ?_⟩) ?_ ?_
     rotate_left
     ·intro w'
      go_simp
      with_reducible rfl
     rotate_left
     ·simp only [Act.put, List.setIfInBounds_toArray, List.set_cons_zero, List.set_cons_succ, i64_w, i32_w]
      rfl
     refine done_ (done_of HT_.out (by kernel_rfl)) ?_
     obtain ⟨Ao45, co45, eo45⟩ := Kd.R_slice HO507.out
     subst eo45
     try go_wp2_with (first | ((with_reducible refine gate_callee (f := 18) rfl ?_); refine goesL_ (some 51) rfl rfl Tryd.func18 (by kernel_rfl) rfl #[.slice Ao45 y505.length co45] rfl (by (try simp only [List.map_toArray, List.map_cons, List.map_nil]); first | done | rfl | (simp only [List.length_drop, List.length_take]; rfl)) ?_; (with_reducible refine (entry_Net.calls _ _ y505 t508 _ ?side1 ?side2 A25.out).mono ?_); (case side1 => repeat (first | exact (Kd.R_reads' HO507.out).2.2 | (with_reducible refine Kd.C_alloc ?_ _) | (with_reducible refine Kd.C_drewN ?_ _) | (with_reducible refine Kd.C_drew ?_))); (case side2 => exact (Kd.R_reads' HO507.out).2.1); rintro e w46 ⟨v509, rfl, ho0, hb⟩; refine ⟨_, rfl, ?_⟩; have n0_ := Aside0.mk (Kd.R_elder' (by (with_reducible repeat (first | apply Kd.R_alloc | apply Kd.R_drewN | apply Kd.R_drew)); exact HO495.out) (Kd.R_base ho0) hb); have n1_ := Aside0.mk (Kd.R_elder' (by (with_reducible repeat (first | apply Kd.R_alloc | apply Kd.R_drewN | apply Kd.R_drew)); exact HO507.out) (Kd.R_base ho0) hb); have n2_ := Aside0.mk (Kd.R_lower (Kd.R_new' (Kd.R_new' ho0 (Kd.R_lt (by (with_reducible repeat (first | apply Kd.R_alloc | apply Kd.R_drewN | apply Kd.R_drew)); exact HO495.out))) (Kd.R_lt (by (with_reducible repeat (first | apply Kd.R_alloc | apply Kd.R_drewN | apply Kd.R_drew)); exact HO507.out))) (below_size (by repeat (first | (with_reducible first | exact HB.out | apply below_alloc | apply pw_below_drewN | apply below_drew1 | refine below_set ?_ GE481.out | refine below_set ?_ GE498.out) | exact HB.out)))); have n3_ := Aside0.mk (blk_below (g := gb481) (o := .cells #[.int .i64 a0_0, .int .i64 a0_1, .int .i64 a0_2, .int .i64 a0_3, .int .i64 a0_4, .int .i64 a0_5, .string a0_6, .string a0_7, .slice A0_8 l0_8.length c0_8, .int .u64 a0_9] 25 (0, 0)) (by (with_reducible repeat (first | refine blk_drewN ?_ _ | refine blk_drew ?_ | refine blk_alloc ?_ _)); exact BK481.out) hb); have n4_ := Aside0.mk (blk_below (g := gb498) (o := .cells #[.int .i64 t485, .int .i64 t486, .int .i64 t487, .int .i64 t488, .int .i64 t489, .int .i64 t490, .string t491, .string t492, .slice Ao38 t493.length co38, .int .u64 t496] 25 (0, 0)) (by (with_reducible repeat (first | refine blk_drewN ?_ _ | refine blk_drew ?_ | refine blk_alloc ?_ _)); exact BK498.out) hb); have n5_ := Aside0.mk (below_step (by repeat (first | (with_reducible first | exact HB.out | apply below_alloc | apply pw_below_drewN | apply below_drew1 | refine below_set ?_ GE481.out | refine below_set ?_ GE498.out) | exact HB.out)) hb); clear HO495; clear HO507; clear BK481; clear BK498; clear HB; have HO495 := n0_; have HO507 := n1_; have HO510 := n2_; have BK481 := n3_; have BK498 := n4_; have HB := n5_; clear n0_ n1_ n2_ n3_ n4_ n5_; (try clear hb); (try clear hb2); (try clear hk); (try clear hi); (try clear ho0); obtain ⟨Ao47, co47, eo47⟩ := Kd.R_slice HO510.out; subst eo47; have hcz48_0 : w46.cell? ⟨gb498, 0, none⟩ = some (.int .i64 t485) := (blk_cell BK498.out 0).trans rfl; have hcz48_1 : w46.cell? ⟨gb498, 1, none⟩ = some (.int .i64 t486) := (blk_cell BK498.out 1).trans rfl; have hcz48_2 : w46.cell? ⟨gb498, 2, none⟩ = some (.int .i64 t487) := (blk_cell BK498.out 2).trans rfl; have hcz48_3 : w46.cell? ⟨gb498, 3, none⟩ = some (.int .i64 t488) := (blk_cell BK498.out 3).trans rfl; have hcz48_4 : w46.cell? ⟨gb498, 4, none⟩ = some (.int .i64 t489) := (blk_cell BK498.out 4).trans rfl; have hcz48_5 : w46.cell? ⟨gb498, 5, none⟩ = some (.int .i64 t490) := (blk_cell BK498.out 5).trans rfl; have hcz48_6 : w46.cell? ⟨gb498, 6, none⟩ = some (.string t491) := (blk_cell BK498.out 6).trans rfl; have hcz48_7 : w46.cell? ⟨gb498, 7, none⟩ = some (.string t492) := (blk_cell BK498.out 7).trans rfl; have hcz48_8 : w46.cell? ⟨gb498, 8, none⟩ = some (.slice Ao38 t493.length co38) := (blk_cell BK498.out 8).trans rfl; have hcz48_9 : w46.cell? ⟨gb498, 9, none⟩ = some (.int .u64 t496) := (blk_cell BK498.out 9).trans rfl; have hfz48_0 := blk_frozen BK498.out 0; have hfz48_1 := blk_frozen BK498.out 1; have hfz48_2 := blk_frozen BK498.out 2; have hfz48_3 := blk_frozen BK498.out 3; have hfz48_4 := blk_frozen BK498.out 4; have hfz48_5 := blk_frozen BK498.out 5; have hfz48_6 := blk_frozen BK498.out 6; have hfz48_7 := blk_frozen BK498.out 7; have hfz48_8 := blk_frozen BK498.out 8; have hfz48_9 := blk_frozen BK498.out 9) | (go_at_call 12; (with_reducible refine (entry_Check.calls kj3 t485 t486 t487 t488 t489 t490 t491 t492 _ _ t493 t496 t511 _ ?side1 ?side2 A27.out).mono ?_); (case side1 => repeat (first | exact (Kd.R_reads' HO495.out).2.2 | (with_reducible refine Kd.C_alloc ?_ _) | (with_reducible refine Kd.C_drewN ?_ _) | (with_reducible refine Kd.C_drew ?_))); (case side2 => exact (Kd.R_reads' HO495.out).2.1); rintro e w49 ⟨rfl, hb⟩; have n0_ := Aside0.mk (Kd.R_below (by (with_reducible repeat (first | apply Kd.R_alloc | apply Kd.R_drewN | apply Kd.R_drew)); exact HO495.out) hb); have n1_ := Aside0.mk (Kd.R_below (by (with_reducible repeat (first | apply Kd.R_alloc | apply Kd.R_drewN | apply Kd.R_drew)); exact HO507.out) hb); have n2_ := Aside0.mk (Kd.R_below (by (with_reducible repeat (first | apply Kd.R_alloc | apply Kd.R_drewN | apply Kd.R_drew)); exact HO510.out) hb); have n3_ := Aside0.mk (blk_below (g := gb481) (o := .cells #[.int .i64 a0_0, .int .i64 a0_1, .int .i64 a0_2, .int .i64 a0_3, .int .i64 a0_4, .int .i64 a0_5, .string a0_6, .string a0_7, .slice A0_8 l0_8.length c0_8, .int .u64 a0_9] 25 (0, 0)) (by (with_reducible repeat (first | refine blk_drewN ?_ _ | refine blk_drew ?_ | refine blk_alloc ?_ _)); exact BK481.out) hb); have n4_ := Aside0.mk (blk_below (g := gb498) (o := .cells #[.int .i64 t485, .int .i64 t486, .int .i64 t487, .int .i64 t488, .int .i64 t489, .int .i64 t490, .string t491, .string t492, .slice Ao38 t493.length co38, .int .u64 t496] 25 (0, 0)) (by (with_reducible repeat (first | refine blk_drewN ?_ _ | refine blk_drew ?_ | refine blk_alloc ?_ _)); exact BK498.out) hb); have n5_ := Aside0.mk (below_step (by repeat (first | (with_reducible first | exact HB.out | apply below_alloc | apply pw_below_drewN | apply below_drew1 | refine below_set ?_ GE481.out | refine below_set ?_ GE498.out) | exact HB.out)) hb); clear HO495; clear HO507; clear HO510; clear BK481; clear BK498; clear HB; have HO495 := n0_; have HO507 := n1_; have HO510 := n2_; have BK481 := n3_; have BK498 := n4_; have HB := n5_; clear n0_ n1_ n2_ n3_ n4_ n5_; (try clear hb); (try clear hb2); (try clear hk); (try clear hi); have hcz50_0 : w49.cell? ⟨gb498, 0, none⟩ = some (.int .i64 t485) := (blk_cell BK498.out 0).trans rfl; have hcz50_1 : w49.cell? ⟨gb498, 1, none⟩ = some (.int .i64 t486) := (blk_cell BK498.out 1).trans rfl; have hcz50_2 : w49.cell? ⟨gb498, 2, none⟩ = some (.int .i64 t487) := (blk_cell BK498.out 2).trans rfl; have hcz50_3 : w49.cell? ⟨gb498, 3, none⟩ = some (.int .i64 t488) := (blk_cell BK498.out 3).trans rfl; have hcz50_4 : w49.cell? ⟨gb498, 4, none⟩ = some (.int .i64 t489) := (blk_cell BK498.out 4).trans rfl; have hcz50_5 : w49.cell? ⟨gb498, 5, none⟩ = some (.int .i64 t490) := (blk_cell BK498.out 5).trans rfl; have hcz50_6 : w49.cell? ⟨gb498, 6, none⟩ = some (.string t491) := (blk_cell BK498.out 6).trans rfl; have hcz50_7 : w49.cell? ⟨gb498, 7, none⟩ = some (.string t492) := (blk_cell BK498.out 7).trans rfl; have hcz50_8 : w49.cell? ⟨gb498, 8, none⟩ = some (.slice Ao38 t493.length co38) := (blk_cell BK498.out 8).trans rfl; have hcz50_9 : w49.cell? ⟨gb498, 9, none⟩ = some (.int .u64 t496) := (blk_cell BK498.out 9).trans rfl; have hfz50_0 := blk_frozen BK498.out 0; have hfz50_1 := blk_frozen BK498.out 1; have hfz50_2 := blk_frozen BK498.out 2; have hfz50_3 := blk_frozen BK498.out 3; have hfz50_4 := blk_frozen BK498.out 4; have hfz50_5 := blk_frozen BK498.out 5; have hfz50_6 := blk_frozen BK498.out 6; have hfz50_7 := blk_frozen BK498.out 7; have hfz50_8 := blk_frozen BK498.out 8; have hfz50_9 := blk_frozen BK498.out 9; have hcz51_0 : w49.cell? ⟨gb481, 0, none⟩ = some (.int .i64 a0_0) := (blk_cell BK481.out 0).trans rfl; have hcz51_1 : w49.cell? ⟨gb481, 1, none⟩ = some (.int .i64 a0_1) := (blk_cell BK481.out 1).trans rfl; have hcz51_2 : w49.cell? ⟨gb481, 2, none⟩ = some (.int .i64 a0_2) := (blk_cell BK481.out 2).trans rfl; have hcz51_3 : w49.cell? ⟨gb481, 3, none⟩ = some (.int .i64 a0_3) := (blk_cell BK481.out 3).trans rfl; have hcz51_4 : w49.cell? ⟨gb481, 4, none⟩ = some (.int .i64 a0_4) := (blk_cell BK481.out 4).trans rfl; have hcz51_5 : w49.cell? ⟨gb481, 5, none⟩ = some (.int .i64 a0_5) := (blk_cell BK481.out 5).trans rfl; have hcz51_6 : w49.cell? ⟨gb481, 6, none⟩ = some (.string a0_6) := (blk_cell BK481.out 6).trans rfl; have hcz51_7 : w49.cell? ⟨gb481, 7, none⟩ = some (.string a0_7) := (blk_cell BK481.out 7).trans rfl; have hcz51_8 : w49.cell? ⟨gb481, 8, none⟩ = some (.slice A0_8 l0_8.length c0_8) := (blk_cell BK481.out 8).trans rfl; have hcz51_9 : w49.cell? ⟨gb481, 9, none⟩ = some (.int .u64 a0_9) := (blk_cell BK481.out 9).trans rfl; have hfz51_0 := blk_frozen BK481.out 0; have hfz51_1 := blk_frozen BK481.out 1; have hfz51_2 := blk_frozen BK481.out 2; have hfz51_3 := blk_frozen BK481.out 3; have hfz51_4 := blk_frozen BK481.out 4; have hfz51_5 := blk_frozen BK481.out 5; have hfz51_6 := blk_frozen BK481.out 6; have hfz51_7 := blk_frozen BK481.out 7; have hfz51_8 := blk_frozen BK481.out 8; have hfz51_9 := blk_frozen BK481.out 9) | (go_at_call 11; (with_reducible refine (corebanklaw19_live.calls  t512 _ ?side1 A32.out).mono ?_); (case side1 => refine TabW.below HTab.out ?_; repeat (first | (with_reducible first | exact HB.out | apply below_alloc | apply pw_below_drewN | apply below_drew1 | refine below_set ?_ GE481.out | refine below_set ?_ GE498.out) | exact HB.out)); rintro e w52 ⟨rfl, hb⟩; have n0_ := Aside0.mk (Kd.R_below (by (with_reducible repeat (first | apply Kd.R_alloc | apply Kd.R_drewN | apply Kd.R_drew)); exact HO495.out) hb); have n1_ := Aside0.mk (Kd.R_below (by (with_reducible repeat (first | apply Kd.R_alloc | apply Kd.R_drewN | apply Kd.R_drew)); exact HO507.out) hb); have n2_ := Aside0.mk (Kd.R_below (by (with_reducible repeat (first | apply Kd.R_alloc | apply Kd.R_drewN | apply Kd.R_drew)); exact HO510.out) hb); have n3_ := Aside0.mk (blk_below (g := gb481) (o := .cells #[.int .i64 a0_0, .int .i64 a0_1, .int .i64 a0_2, .int .i64 a0_3, .int .i64 a0_4, .int .i64 a0_5, .string a0_6, .string a0_7, .slice A0_8 l0_8.length c0_8, .int .u64 a0_9] 25 (0, 0)) (by (with_reducible repeat (first | refine blk_drewN ?_ _ | refine blk_drew ?_ | refine blk_alloc ?_ _)); exact BK481.out) hb); have n4_ := Aside0.mk (blk_below (g := gb498) (o := .cells #[.int .i64 t485, .int .i64 t486, .int .i64 t487, .int .i64 t488, .int .i64 t489, .int .i64 t490, .string t491, .string t492, .slice Ao38 t493.length co38, .int .u64 t496] 25 (0, 0)) (by (with_reducible repeat (first | refine blk_drewN ?_ _ | refine blk_drew ?_ | refine blk_alloc ?_ _)); exact BK498.out) hb); have n5_ := Aside0.mk (below_step (by repeat (first | (with_reducible first | exact HB.out | apply below_alloc | apply pw_below_drewN | apply below_drew1 | refine below_set ?_ GE481.out | refine below_set ?_ GE498.out) | exact HB.out)) hb); clear HO495; clear HO507; clear HO510; clear BK481; clear BK498; clear HB; have HO495 := n0_; have HO507 := n1_; have HO510 := n2_; have BK481 := n3_; have BK498 := n4_; have HB := n5_; clear n0_ n1_ n2_ n3_ n4_ n5_; (try clear hb); (try clear hb2); (try clear hk); (try clear hi)))
     go_ret
     exact ⟨by first | rfl | (simp [errW_none, errW_some] <;> rfl) | (simp [*, errW_none, errW_some] <;> rfl), by repeat (first | (with_reducible first | exact HB.out | apply below_alloc | apply pw_below_drewN | apply below_drew1 | refine below_set ?_ GE481.out | refine below_set ?_ GE498.out) | exact HB.out)⟩
    ·rw [if_neg c22] at H
     have c22b0 : (t497 == 0) = false := beq_eq_false_iff_ne.mpr c22
     have c22b1 : (t497 != 0) = true := bne_iff_ne.mpr c22
     by_cases c142 : t497 = 1
     case neg =>
      rw [if_neg c142] at H
      exact absurd H (by simp)
     rw [if_pos c142] at H
     have c142b0 : (t497 == 1) = true := beq_iff_eq.mpr c142
     have c142b1 : (t497 != 1) = false := bne_eq_false_iff_eq.mpr c142
     clear c142
     by_cases c143 : (t493.length : Int) = 0
     case neg =>
      rw [if_neg c143] at H
      exact absurd H (by simp)
     rw [if_pos c143] at H
     have c143b0 : ((t493.length : Int) == 0) = true := beq_iff_eq.mpr c143
     have c143b1 : ((t493.length : Int) != 0) = false := bne_eq_false_iff_eq.mpr c143
     clear c143
     replace H := Option.bind_eq_some_iff.mp H
     obtain ⟨t513, A1440, H⟩ := H
     replace H : (some t513) = some true := H
     have A144 := Aside0.mk A1440
     clear A1440
     have hr_ : t513 = true := Option.some.inj H
     have hcz145_0 : wc.cell? ⟨gb481, 0, none⟩ = some (.int .i64 a0_0) := (blk_cell BK481.out 0).trans rfl
     have hcz145_1 : wc.cell? ⟨gb481, 1, none⟩ = some (.int .i64 a0_1) := (blk_cell BK481.out 1).trans rfl
     have hcz145_2 : wc.cell? ⟨gb481, 2, none⟩ = some (.int .i64 a0_2) := (blk_cell BK481.out 2).trans rfl
     have hcz145_3 : wc.cell? ⟨gb481, 3, none⟩ = some (.int .i64 a0_3) := (blk_cell BK481.out 3).trans rfl
     have hcz145_4 : wc.cell? ⟨gb481, 4, none⟩ = some (.int .i64 a0_4) := (blk_cell BK481.out 4).trans rfl
     have hcz145_5 : wc.cell? ⟨gb481, 5, none⟩ = some (.int .i64 a0_5) := (blk_cell BK481.out 5).trans rfl
     have hcz145_6 : wc.cell? ⟨gb481, 6, none⟩ = some (.string a0_6) := (blk_cell BK481.out 6).trans rfl
     have hcz145_7 : wc.cell? ⟨gb481, 7, none⟩ = some (.string a0_7) := (blk_cell BK481.out 7).trans rfl
     have hcz145_8 : wc.cell? ⟨gb481, 8, none⟩ = some (.slice A0_8 l0_8.length c0_8) := (blk_cell BK481.out 8).trans rfl
     have hcz145_9 : wc.cell? ⟨gb481, 9, none⟩ = some (.int .u64 a0_9) := (blk_cell BK481.out 9).trans rfl
     have hfz145_0 := blk_frozen BK481.out 0
     have hfz145_1 := blk_frozen BK481.out 1
     have hfz145_2 := blk_frozen BK481.out 2
     have hfz145_3 := blk_frozen BK481.out 3
     have hfz145_4 := blk_frozen BK481.out 4
     have hfz145_5 := blk_frozen BK481.out 5
     have hfz145_6 := blk_frozen BK481.out 6
     have hfz145_7 := blk_frozen BK481.out 7
     have hfz145_8 := blk_frozen BK481.out 8
     have hfz145_9 := blk_frozen BK481.out 9
     go_wp2_with (first | ((with_reducible refine gate_callee (f := 20) rfl ?_); refine goesL_ (some 27) rfl rfl Tryd.func20 (by kernel_rfl) rfl #[.agg #[.int .i64 a0_0, .int .i64 a0_1, .int .i64 a0_2, .int .i64 a0_3, .int .i64 a0_4, .int .i64 a0_5, .string a0_6, .string a0_7, .slice A0_8 l0_8.length c0_8, .int .u64 a0_9], .string a1, .int .i64 a2] rfl (by (try simp only [List.map_toArray, List.map_cons, List.map_nil]); first | done | rfl | (simp only [List.length_drop, List.length_take]; rfl)) ?_; (with_reducible refine (entry_Reverse.calls a0_0 a0_1 a0_2 a0_3 a0_4 a0_5 a0_6 a0_7 _ _ l0_8 a0_9 a1 a2 t485 t486 t487 t488 t489 t490 t491 t492 t493 t496 t497 _ ?side1 ?side2 A21.out).mono ?_); (case side1 => repeat (first | exact (Kd.C_below HR0_8.out HB.out) | (with_reducible refine Kd.C_alloc ?_ _) | (with_reducible refine Kd.C_drewN ?_ _) | (with_reducible refine Kd.C_drew ?_))); (case side2 => exact HC0_8.out); rintro e w146 ⟨v494, rfl, ho0, hb⟩; refine ⟨_, rfl, ?_⟩; have n0_ := Aside0.mk (Kd.R_lower ho0 (below_size (by repeat (first | (with_reducible first | exact HB.out | apply below_alloc | apply pw_below_drewN | apply below_drew1 | refine below_set ?_ GE481.out) | exact HB.out)))); have n1_ := Aside0.mk (blk_below (g := gb481) (o := .cells #[.int .i64 a0_0, .int .i64 a0_1, .int .i64 a0_2, .int .i64 a0_3, .int .i64 a0_4, .int .i64 a0_5, .string a0_6, .string a0_7, .slice A0_8 l0_8.length c0_8, .int .u64 a0_9] 25 (0, 0)) (by (with_reducible repeat (first | refine blk_drewN ?_ _ | refine blk_drew ?_ | refine blk_alloc ?_ _)); exact BK481.out) hb); have n2_ := Aside0.mk (below_step (by repeat (first | (with_reducible first | exact HB.out | apply below_alloc | apply pw_below_drewN | apply below_drew1 | refine below_set ?_ GE481.out) | exact HB.out)) hb); clear BK481; clear HB; have HO495 := n0_; have BK481 := n1_; have HB := n2_; clear n0_ n1_ n2_; (try clear hb); (try clear hb2); (try clear hk); (try clear hi); (try clear ho0)) | ((with_reducible refine gate_dst (N := 7) rfl ?_); (try (refine gate_guard (by rfl) ?_; dsimp only)); refine box_event ?hg (N := 7) ?hd (cs := #[.int .i64 0, .int .i64 0, .int .i64 0, .int .i64 0, .int .i64 0, .int .i64 0, .string (⟨#[]⟩ : ByteArray), .string (⟨#[]⟩ : ByteArray), .slice none 0 0, .int .u64 0]) (t := 25) ?hr ?_; (case hd => rfl); (case hg => rfl); (case hr => first | (go_simp; done) | (go_simp; rfl)); intro gb498 hg w147 hbox hb; have n0_ := Aside0.mk (Kd.R_below (by (with_reducible repeat (first | apply Kd.R_alloc | apply Kd.R_drewN | apply Kd.R_drew)); exact HO495.out) hb); have n1_ := Aside0.mk (blk_below (g := gb481) (o := .cells #[.int .i64 a0_0, .int .i64 a0_1, .int .i64 a0_2, .int .i64 a0_3, .int .i64 a0_4, .int .i64 a0_5, .string a0_6, .string a0_7, .slice A0_8 l0_8.length c0_8, .int .u64 a0_9] 25 (0, 0)) (by (with_reducible repeat (first | refine blk_drewN ?_ _ | refine blk_drew ?_ | refine blk_alloc ?_ _)); exact BK481.out) hb); have n2_ := Aside0.mk (below_step (by repeat (first | (with_reducible first | exact HB.out | apply below_alloc | apply pw_below_drewN | apply below_drew1 | refine below_set ?_ GE481.out) | exact HB.out)) hb); have n3_ := Aside0.mk (hbox); have n4_ := Aside0.mk ((by rw [hg]; exact (below_size (by repeat (first | (with_reducible first | exact HB.out | apply below_alloc | apply pw_below_drewN | apply below_drew1 | refine below_set ?_ GE481.out) | exact HB.out))) : w.heap.size ≤ gb498)); have n5_ := Aside0.mk ((by rw [hg]; exact (below_size (by repeat (first | (with_reducible first | exact HB.out | apply below_alloc | apply pw_below_drewN | apply below_drew1 | refine below_set ?_ GE481.out) | exact HB.out))) : w.heap.size ≤ gb498)); have n6_ := Aside0.mk ((by rw [hg]; exact Nat.ne_of_lt (blk_lt (g := gb481) (o := .cells #[.int .i64 a0_0, .int .i64 a0_1, .int .i64 a0_2, .int .i64 a0_3, .int .i64 a0_4, .int .i64 a0_5, .string a0_6, .string a0_7, .slice A0_8 l0_8.length c0_8, .int .u64 a0_9] 25 (0, 0)) (by (with_reducible repeat (first | refine blk_drewN ?_ _ | refine blk_drew ?_ | refine blk_alloc ?_ _)); exact BK481.out)) : gb481 ≠ gb498)); have n7_ := Aside0.mk ((by rw [hg]; exact Nat.ne_of_gt (blk_lt (g := gb481) (o := .cells #[.int .i64 a0_0, .int .i64 a0_1, .int .i64 a0_2, .int .i64 a0_3, .int .i64 a0_4, .int .i64 a0_5, .string a0_6, .string a0_7, .slice A0_8 l0_8.length c0_8, .int .u64 a0_9] 25 (0, 0)) (by (with_reducible repeat (first | refine blk_drewN ?_ _ | refine blk_drew ?_ | refine blk_alloc ?_ _)); exact BK481.out)) : gb498 ≠ gb481)); clear HO495; clear BK481; clear HB; have HO495 := n0_; have BK481 := n1_; have HB := n2_; have BK498 := n3_; have GW498 := n4_; have GE498 := n5_; have NB481_498 := n6_; have NB498_481 := n7_; clear n0_ n1_ n2_ n3_ n4_ n5_ n6_ n7_; clear hb hbox hg; have hnb148 := NB498_481.out; have hnc148 := NB481_498.out; have hcz149_0 : w147.cell? ⟨gb498, 0, none⟩ = some (.int .i64 0) := (blk_cell BK498.out 0).trans rfl; have hcz149_1 : w147.cell? ⟨gb498, 1, none⟩ = some (.int .i64 0) := (blk_cell BK498.out 1).trans rfl; have hcz149_2 : w147.cell? ⟨gb498, 2, none⟩ = some (.int .i64 0) := (blk_cell BK498.out 2).trans rfl; have hcz149_3 : w147.cell? ⟨gb498, 3, none⟩ = some (.int .i64 0) := (blk_cell BK498.out 3).trans rfl; have hcz149_4 : w147.cell? ⟨gb498, 4, none⟩ = some (.int .i64 0) := (blk_cell BK498.out 4).trans rfl; have hcz149_5 : w147.cell? ⟨gb498, 5, none⟩ = some (.int .i64 0) := (blk_cell BK498.out 5).trans rfl; have hcz149_6 : w147.cell? ⟨gb498, 6, none⟩ = some (.string (⟨#[]⟩ : ByteArray)) := (blk_cell BK498.out 6).trans rfl; have hcz149_7 : w147.cell? ⟨gb498, 7, none⟩ = some (.string (⟨#[]⟩ : ByteArray)) := (blk_cell BK498.out 7).trans rfl; have hcz149_8 : w147.cell? ⟨gb498, 8, none⟩ = some (.slice none 0 0) := (blk_cell BK498.out 8).trans rfl; have hcz149_9 : w147.cell? ⟨gb498, 9, none⟩ = some (.int .u64 0) := (blk_cell BK498.out 9).trans rfl; have hfz149_0 := blk_frozen BK498.out 0; have hfz149_1 := blk_frozen BK498.out 1; have hfz149_2 := blk_frozen BK498.out 2; have hfz149_3 := blk_frozen BK498.out 3; have hfz149_4 := blk_frozen BK498.out 4; have hfz149_5 := blk_frozen BK498.out 5; have hfz149_6 := blk_frozen BK498.out 6; have hfz149_7 := blk_frozen BK498.out 7; have hfz149_8 := blk_frozen BK498.out 8; have hfz149_9 := blk_frozen BK498.out 9; obtain ⟨Ao150, co150, eo150⟩ := Kd.R_slice HO495.out; subst eo150) | (go_at_call 11; (with_reducible refine (corebanklaw19_live.calls  t513 _ ?side1 A144.out).mono ?_); (case side1 => refine TabW.below HTab.out ?_; repeat (first | (with_reducible first | exact HB.out | apply below_alloc | apply pw_below_drewN | apply below_drew1 | refine below_set ?_ GE481.out | refine below_set ?_ GE498.out) | exact HB.out)); rintro e w151 ⟨rfl, hb⟩; have n0_ := Aside0.mk (Kd.R_below (by (with_reducible repeat (first | apply Kd.R_alloc | apply Kd.R_drewN | apply Kd.R_drew)); exact (Kd.R_mono (Kd.R_far (p := ⟨gb498, 9, none⟩) (Kd.R_far (p := ⟨gb498, 8, none⟩) (Kd.R_far (p := ⟨gb498, 7, none⟩) (Kd.R_far (p := ⟨gb498, 6, none⟩) (Kd.R_far (p := ⟨gb498, 5, none⟩) (Kd.R_far (p := ⟨gb498, 4, none⟩) (Kd.R_far (p := ⟨gb498, 3, none⟩) (Kd.R_far (p := ⟨gb498, 2, none⟩) (Kd.R_far (p := ⟨gb498, 1, none⟩) (Kd.R_far (p := ⟨gb498, 0, none⟩) (Kd.R_types HO495.out BK498.out (by decide)) (fun _ hk => hk.2) (.int .i64 t485)) (fun _ hk => hk.2) (.int .i64 t486)) (fun _ hk => hk.2) (.int .i64 t487)) (fun _ hk => hk.2) (.int .i64 t488)) (fun _ hk => hk.2) (.int .i64 t489)) (fun _ hk => hk.2) (.int .i64 t490)) (fun _ hk => hk.2) (.string t491)) (fun _ hk => hk.2) (.string t492)) (fun _ hk => hk.2) (.slice Ao150 t493.length co150)) (fun _ hk => hk.2) (.int .u64 t496)) (fun _ h_ => h_.1))) hb); have n1_ := Aside0.mk (blk_below (g := gb481) (o := .cells #[.int .i64 a0_0, .int .i64 a0_1, .int .i64 a0_2, .int .i64 a0_3, .int .i64 a0_4, .int .i64 a0_5, .string a0_6, .string a0_7, .slice A0_8 l0_8.length c0_8, .int .u64 a0_9] 25 (0, 0)) (by (with_reducible repeat (first | refine blk_drewN ?_ _ | refine blk_drew ?_ | refine blk_alloc ?_ _)); refine blk_far ?_ NB481_498.out _; (with_reducible repeat (first | refine blk_drewN ?_ _ | refine blk_drew ?_ | refine blk_alloc ?_ _)); refine blk_far ?_ NB481_498.out _; (with_reducible repeat (first | refine blk_drewN ?_ _ | refine blk_drew ?_ | refine blk_alloc ?_ _)); refine blk_far ?_ NB481_498.out _; (with_reducible repeat (first | refine blk_drewN ?_ _ | refine blk_drew ?_ | refine blk_alloc ?_ _)); refine blk_far ?_ NB481_498.out _; (with_reducible repeat (first | refine blk_drewN ?_ _ | refine blk_drew ?_ | refine blk_alloc ?_ _)); refine blk_far ?_ NB481_498.out _; (with_reducible repeat (first | refine blk_drewN ?_ _ | refine blk_drew ?_ | refine blk_alloc ?_ _)); refine blk_far ?_ NB481_498.out _; (with_reducible repeat (first | refine blk_drewN ?_ _ | refine blk_drew ?_ | refine blk_alloc ?_ _)); refine blk_far ?_ NB481_498.out _; (with_reducible repeat (first | refine blk_drewN ?_ _ | refine blk_drew ?_ | refine blk_alloc ?_ _)); refine blk_far ?_ NB481_498.out _; (with_reducible repeat (first | refine blk_drewN ?_ _ | refine blk_drew ?_ | refine blk_alloc ?_ _)); refine blk_far ?_ NB481_498.out _; (with_reducible repeat (first | refine blk_drewN ?_ _ | refine blk_drew ?_ | refine blk_alloc ?_ _)); refine blk_far ?_ NB481_498.out _; (with_reducible repeat (first | refine blk_drewN ?_ _ | refine blk_drew ?_ | refine blk_alloc ?_ _)); exact BK481.out) hb); have n2_ := Aside0.mk (blk_below (g := gb498) (o := .cells #[.int .i64 t485, .int .i64 t486, .int .i64 t487, .int .i64 t488, .int .i64 t489, .int .i64 t490, .string t491, .string t492, .slice Ao150 t493.length co150, .int .u64 t496] 25 (0, 0)) (by (with_reducible repeat (first | refine blk_drewN ?_ _ | refine blk_drew ?_ | refine blk_alloc ?_ _)); refine blk_put (cs := #[.int .i64 t485, .int .i64 t486, .int .i64 t487, .int .i64 t488, .int .i64 t489, .int .i64 t490, .string t491, .string t492, .slice Ao150 t493.length co150, .int .u64 0]) ?_ 9 _ rfl; (with_reducible repeat (first | refine blk_drewN ?_ _ | refine blk_drew ?_ | refine blk_alloc ?_ _)); refine blk_put (cs := #[.int .i64 t485, .int .i64 t486, .int .i64 t487, .int .i64 t488, .int .i64 t489, .int .i64 t490, .string t491, .string t492, .slice none 0 0, .int .u64 0]) ?_ 8 _ rfl; (with_reducible repeat (first | refine blk_drewN ?_ _ | refine blk_drew ?_ | refine blk_alloc ?_ _)); refine blk_put (cs := #[.int .i64 t485, .int .i64 t486, .int .i64 t487, .int .i64 t488, .int .i64 t489, .int .i64 t490, .string t491, .string (⟨#[]⟩ : ByteArray), .slice none 0 0, .int .u64 0]) ?_ 7 _ rfl; (with_reducible repeat (first | refine blk_drewN ?_ _ | refine blk_drew ?_ | refine blk_alloc ?_ _)); refine blk_put (cs := #[.int .i64 t485, .int .i64 t486, .int .i64 t487, .int .i64 t488, .int .i64 t489, .int .i64 t490, .string (⟨#[]⟩ : ByteArray), .string (⟨#[]⟩ : ByteArray), .slice none 0 0, .int .u64 0]) ?_ 6 _ rfl; (with_reducible repeat (first | refine blk_drewN ?_ _ | refine blk_drew ?_ | refine blk_alloc ?_ _)); refine blk_put (cs := #[.int .i64 t485, .int .i64 t486, .int .i64 t487, .int .i64 t488, .int .i64 t489, .int .i64 0, .string (⟨#[]⟩ : ByteArray), .string (⟨#[]⟩ : ByteArray), .slice none 0 0, .int .u64 0]) ?_ 5 _ rfl; (with_reducible repeat (first | refine blk_drewN ?_ _ | refine blk_drew ?_ | refine blk_alloc ?_ _)); refine blk_put (cs := #[.int .i64 t485, .int .i64 t486, .int .i64 t487, .int .i64 t488, .int .i64 0, .int .i64 0, .string (⟨#[]⟩ : ByteArray), .string (⟨#[]⟩ : ByteArray), .slice none 0 0, .int .u64 0]) ?_ 4 _ rfl; (with_reducible repeat (first | refine blk_drewN ?_ _ | refine blk_drew ?_ | refine blk_alloc ?_ _)); refine blk_put (cs := #[.int .i64 t485, .int .i64 t486, .int .i64 t487, .int .i64 0, .int .i64 0, .int .i64 0, .string (⟨#[]⟩ : ByteArray), .string (⟨#[]⟩ : ByteArray), .slice none 0 0, .int .u64 0]) ?_ 3 _ rfl; (with_reducible repeat (first | refine blk_drewN ?_ _ | refine blk_drew ?_ | refine blk_alloc ?_ _)); refine blk_put (cs := #[.int .i64 t485, .int .i64 t486, .int .i64 0, .int .i64 0, .int .i64 0, .int .i64 0, .string (⟨#[]⟩ : ByteArray), .string (⟨#[]⟩ : ByteArray), .slice none 0 0, .int .u64 0]) ?_ 2 _ rfl; (with_reducible repeat (first | refine blk_drewN ?_ _ | refine blk_drew ?_ | refine blk_alloc ?_ _)); refine blk_put (cs := #[.int .i64 t485, .int .i64 0, .int .i64 0, .int .i64 0, .int .i64 0, .int .i64 0, .string (⟨#[]⟩ : ByteArray), .string (⟨#[]⟩ : ByteArray), .slice none 0 0, .int .u64 0]) ?_ 1 _ rfl; (with_reducible repeat (first | refine blk_drewN ?_ _ | refine blk_drew ?_ | refine blk_alloc ?_ _)); refine blk_put (cs := #[.int .i64 0, .int .i64 0, .int .i64 0, .int .i64 0, .int .i64 0, .int .i64 0, .string (⟨#[]⟩ : ByteArray), .string (⟨#[]⟩ : ByteArray), .slice none 0 0, .int .u64 0]) ?_ 0 _ rfl; (with_reducible repeat (first | refine blk_drewN ?_ _ | refine blk_drew ?_ | refine blk_alloc ?_ _)); exact BK498.out) hb); have n3_ := Aside0.mk (below_step (by repeat (first | (with_reducible first | exact HB.out | apply below_alloc | apply pw_below_drewN | apply below_drew1 | refine below_set ?_ GE481.out | refine below_set ?_ GE498.out) | exact HB.out)) hb); clear HO495; clear BK481; clear BK498; clear HB; have HO495 := n0_; have BK481 := n1_; have BK498 := n2_; have HB := n3_; clear n0_ n1_ n2_ n3_; (try clear hb); (try clear hb2); (try clear hk); (try clear hi)))
     go_ret
     exact ⟨by first | rfl | (simp [errW_none, errW_some] <;> rfl) | (simp [*, errW_none, errW_some] <;> rfl), by repeat (first | (with_reducible first | exact HB.out | apply below_alloc | apply pw_below_drewN | apply below_drew1 | refine below_set ?_ GE481.out | refine below_set ?_ GE498.out) | exact HB.out)⟩
end Go.Proofs.YtkfgnjdchnpjeaaDoor.QD
