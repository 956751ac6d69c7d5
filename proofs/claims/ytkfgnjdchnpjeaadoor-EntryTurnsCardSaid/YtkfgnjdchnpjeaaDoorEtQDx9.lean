/- QDx9: what the law EntryTurns asks of it. -/
import Derived.Test.YtkfgnjdchnpjeaaDoorEtQDx0
import Derived.Test.YtkfgnjdchnpjeaaDoorEtQDx7
import Derived.Test.YtkfgnjdchnpjeaaDoorEtQDx8
namespace Go.Proofs.YtkfgnjdchnpjeaaDoor.QD
open Go.RowKit Go.Proofs.YtkfgnjdchnpjeaaDoorW.PrintWords Go.Proofs.YtkfgnjdchnpjeaaDoorW.PrintLast Go.Proofs.YtkfgnjdchnpjeaaDoorW.PrintMore
attribute [local go_sem] max2_int min2_int max_two min_two max_three min_three max_four min_four   -- for this text's walks alone
set_option linter.unusedVariables false
set_option linter.unusedSimpArgs false
mutual
def corebankref19_Check.j0 : Nat → Bool → Int → Int → Int → Int → Int → Int → ByteArray → ByteArray → List (S46) → Int → Option (Int)
 | 0, _, _, _, _, _, _, _, _, _, _, _ => none
 | k + 1, x57, x208000, x208001, x208002, x208003, x208004, x208005, x208006, x208007, x208008, x208009 => if x57 = true then (some 1) else (if (x208008.length : Int) < 2 then (corebankref19_Check.j1 k true x208000 x208001 x208002 x208003 x208004 x208005 x208006 x208007 x208008 x208009) else (corebankref19_Check.j1 k (decide ((x208008.length : Int) > 12)) x208000 x208001 x208002 x208003 x208004 x208005 x208006 x208007 x208008 x208009))
def corebankref19_Check.j1 : Nat → Bool → Int → Int → Int → Int → Int → Int → ByteArray → ByteArray → List (S46) → Int → Option (Int)
 | 0, _, _, _, _, _, _, _, _, _, _, _ => none
 | k + 1, x67, x208000, x208001, x208002, x208003, x208004, x208005, x208006, x208007, x208008, x208009 => if x67 = true then (some 5) else (corebankref19_Check.l0 k 0 x208000 x208001 x208002 x208003 x208004 x208005 x208006 x208007 x208008 x208009)
def corebankref19_Check.l0 : Nat → Int → Int → Int → Int → Int → Int → Int → ByteArray → ByteArray → List (S46) → Int → Option (Int)
 | 0, _, _, _, _, _, _, _, _, _, _, _ => none
 | k + 1, x3, x208000, x208001, x208002, x208003, x208004, x208005, x208006, x208007, x208008, x208009 => if x3 < (x208008.length : Int) then (if 0 ≤ x3 then ((corebankref19_leg.f k ((rd_T46 x208008 x3).f0) ((rd_T46 x208008 x3).f1) ((rd_T46 x208008 x3).f2)).bind fun t214 => (if t214 = 0 then (corebankref19_Check.l0 k (wrap64 (x3 + 1)) x208000 x208001 x208002 x208003 x208004 x208005 x208006 x208007 x208008 x208009) else (some t214))) else (none)) else ((corebankref19_Sums.f k x208008).bind fun t215 => (corebankref19_Check.l1 k t215 0))
def corebankref19_Check.l1 : Nat → List (S44) → Int → Option (Int)
 | 0, _, _ => none
 | k + 1, x5, x6 => if x6 < (x5.length : Int) then (if 0 ≤ x6 then (if ((rd_T44 x5 x6).f1) = 0 then (corebankref19_Check.l1 k x5 (wrap64 (x6 + 1))) else (some 15)) else (none)) else (some 0)
end
def corebankref19_Check.f (k : Nat) (a0_0 : Int) (a0_1 : Int) (a0_2 : Int) (a0_3 : Int) (a0_4 : Int) (a0_5 : Int) (a0_6 : ByteArray) (a0_7 : ByteArray) (l0_8 : List (S46)) (a0_9 : Int) : Option (Int) := (corebankref07_Key.f k a0_6).bind fun t208 => (if t208 = true then ((corebankref07_Printed.f k a0_7 64 32).bind fun t209 => (if t209 = true then ((corebankref04_Valid.f a0_1).bind fun t210 => (if t210 = true then ((corebankref04_Valid.f a0_2).bind fun t211 => (if t211 = true then (if a0_3 < 1 then (corebankref19_Check.j0 k true a0_0 a0_1 a0_2 a0_3 a0_4 a0_5 a0_6 a0_7 l0_8 a0_9) else (if a0_3 > 14 then (corebankref19_Check.j0 k true a0_0 a0_1 a0_2 a0_3 a0_4 a0_5 a0_6 a0_7 l0_8 a0_9) else (if a0_4 < 0 then (corebankref19_Check.j0 k true a0_0 a0_1 a0_2 a0_3 a0_4 a0_5 a0_6 a0_7 l0_8 a0_9) else (if a0_4 > 3 then (corebankref19_Check.j0 k true a0_0 a0_1 a0_2 a0_3 a0_4 a0_5 a0_6 a0_7 l0_8 a0_9) else (if a0_5 = 0 then (corebankref19_Check.j0 k false a0_0 a0_1 a0_2 a0_3 a0_4 a0_5 a0_6 a0_7 l0_8 a0_9) else ((corebankref04_Valid.f a0_5).bind fun t212 => (corebankref19_Check.j0 k (!t212) a0_0 a0_1 a0_2 a0_3 a0_4 a0_5 a0_6 a0_7 l0_8 a0_9))))))) else (corebankref19_Check.j0 k true a0_0 a0_1 a0_2 a0_3 a0_4 a0_5 a0_6 a0_7 l0_8 a0_9))) else (corebankref19_Check.j0 k true a0_0 a0_1 a0_2 a0_3 a0_4 a0_5 a0_6 a0_7 l0_8 a0_9))) else (corebankref19_Check.j0 k true a0_0 a0_1 a0_2 a0_3 a0_4 a0_5 a0_6 a0_7 l0_8 a0_9))) else (some 4))
set_option maxHeartbeats 8000000 in
set_option maxRecDepth 100000 in
theorem corebankref19_Check.calls (k : Nat) (a0_0 : Int) (a0_1 : Int) (a0_2 : Int) (a0_3 : Int) (a0_4 : Int) (a0_5 : Int) (a0_6 : ByteArray) (a0_7 : ByteArray) (A0_8 : Option Addr) (c0_8 : Nat) (l0_8 : List (S46)) (a0_9 : Int) (r : Int) (w : World) (hr0_8 : Kd.C k46 w A0_8 l0_8.length l0_8) (hc0_8 : l0_8.length ≤ c0_8) (h : corebankref19_Check.f k a0_0 a0_1 a0_2 a0_3 a0_4 a0_5 a0_6 a0_7 l0_8 a0_9 = some r) :
  Calls Tryd.prog 13 #[.agg #[.int .i64 a0_0, .int .i64 a0_1, .int .i64 a0_2, .int .i64 a0_3, .int .i64 a0_4, .int .i64 a0_5, .string a0_6, .string a0_7, .slice A0_8 l0_8.length c0_8, .int .u64 a0_9]] w fun e w' => e = .returned (.int .i64 r) ∧ Below w.heap.size w w' := by
 have hu25 := Tryd.underlying25
 have hu46 := Tryd.underlying46
 have HR0_8 := Aside0.mk hr0_8
 have HC0_8 := Aside0.mk hc0_8
 clear hr0_8 hc0_8
 have HB := Aside0.mk (Below.refl w.heap.size w)
 have H : ((corebankref07_Key.f k a0_6).bind fun t208 => (if t208 = true then ((corebankref07_Printed.f k a0_7 64 32).bind fun t209 => (if t209 = true then ((corebankref04_Valid.f a0_1).bind fun t210 => (if t210 = true then ((corebankref04_Valid.f a0_2).bind fun t211 => (if t211 = true then (if a0_3 < 1 then (corebankref19_Check.j0 k true a0_0 a0_1 a0_2 a0_3 a0_4 a0_5 a0_6 a0_7 l0_8 a0_9) else (if a0_3 > 14 then (corebankref19_Check.j0 k true a0_0 a0_1 a0_2 a0_3 a0_4 a0_5 a0_6 a0_7 l0_8 a0_9) else (if a0_4 < 0 then (corebankref19_Check.j0 k true a0_0 a0_1 a0_2 a0_3 a0_4 a0_5 a0_6 a0_7 l0_8 a0_9) else (if a0_4 > 3 then (corebankref19_Check.j0 k true a0_0 a0_1 a0_2 a0_3 a0_4 a0_5 a0_6 a0_7 l0_8 a0_9) else (if a0_5 = 0 then (corebankref19_Check.j0 k false a0_0 a0_1 a0_2 a0_3 a0_4 a0_5 a0_6 a0_7 l0_8 a0_9) else ((corebankref04_Valid.f a0_5).bind fun t212 => (corebankref19_Check.j0 k (!t212) a0_0 a0_1 a0_2 a0_3 a0_4 a0_5 a0_6 a0_7 l0_8 a0_9))))))) else (corebankref19_Check.j0 k true a0_0 a0_1 a0_2 a0_3 a0_4 a0_5 a0_6 a0_7 l0_8 a0_9))) else (corebankref19_Check.j0 k true a0_0 a0_1 a0_2 a0_3 a0_4 a0_5 a0_6 a0_7 l0_8 a0_9))) else (corebankref19_Check.j0 k true a0_0 a0_1 a0_2 a0_3 a0_4 a0_5 a0_6 a0_7 l0_8 a0_9))) else (some 4))) = some r := h
 clear h
 replace H := Option.bind_eq_some_iff.mp H
 obtain ⟨t208, A20, H⟩ := H
 try dsimp only at H
 have A2 := Aside0.mk A20
 clear A20
 by_cases c3 : t208 = true
 ·subst c3
  have H1 : ((corebankref07_Printed.f k a0_7 64 32).bind fun t209 => (if t209 = true then ((corebankref04_Valid.f a0_1).bind fun t210 => (if t210 = true then ((corebankref04_Valid.f a0_2).bind fun t211 => (if t211 = true then (if a0_3 < 1 then (corebankref19_Check.j0 k true a0_0 a0_1 a0_2 a0_3 a0_4 a0_5 a0_6 a0_7 l0_8 a0_9) else (if a0_3 > 14 then (corebankref19_Check.j0 k true a0_0 a0_1 a0_2 a0_3 a0_4 a0_5 a0_6 a0_7 l0_8 a0_9) else (if a0_4 < 0 then (corebankref19_Check.j0 k true a0_0 a0_1 a0_2 a0_3 a0_4 a0_5 a0_6 a0_7 l0_8 a0_9) else (if a0_4 > 3 then (corebankref19_Check.j0 k true a0_0 a0_1 a0_2 a0_3 a0_4 a0_5 a0_6 a0_7 l0_8 a0_9) else (if a0_5 = 0 then (corebankref19_Check.j0 k false a0_0 a0_1 a0_2 a0_3 a0_4 a0_5 a0_6 a0_7 l0_8 a0_9) else ((corebankref04_Valid.f a0_5).bind fun t212 => (corebankref19_Check.j0 k (!t212) a0_0 a0_1 a0_2 a0_3 a0_4 a0_5 a0_6 a0_7 l0_8 a0_9))))))) else (corebankref19_Check.j0 k true a0_0 a0_1 a0_2 a0_3 a0_4 a0_5 a0_6 a0_7 l0_8 a0_9))) else (corebankref19_Check.j0 k true a0_0 a0_1 a0_2 a0_3 a0_4 a0_5 a0_6 a0_7 l0_8 a0_9))) else (corebankref19_Check.j0 k true a0_0 a0_1 a0_2 a0_3 a0_4 a0_5 a0_6 a0_7 l0_8 a0_9))) = some r := by rw [if_pos rfl] at H; exact H
  clear H
  have H := H1
  clear H1
  have HC4 := Aside0.mk H
  clear H
  go_enter Tryd.func13, Tryd.ntmps13
  go_upto_region 3 with (first | ((with_reducible refine gate_dst (N := 1) rfl ?_); (try (refine gate_guard (by rfl) ?_; dsimp only)); refine box_event ?hg (N := 1) ?hd (cs := #[.int .i64 a0_0, .int .i64 a0_1, .int .i64 a0_2, .int .i64 a0_3, .int .i64 a0_4, .int .i64 a0_5, .string a0_6, .string a0_7, .slice A0_8 l0_8.length c0_8, .int .u64 a0_9]) (t := 25) ?hr ?_; (case hd => rfl); (case hg => rfl); (case hr => first | (go_simp; done) | (go_simp; rfl)); intro gb207 hg w5 hbox hb; have n0_ := Aside0.mk (below_step (by repeat (first | (with_reducible first | exact HB.out | apply below_alloc | apply pw_below_drewN | apply below_drew1) | exact HB.out)) hb); have n1_ := Aside0.mk (hbox); have n2_ := Aside0.mk ((by rw [hg]; exact (below_size (by repeat (first | (with_reducible first | exact HB.out | apply below_alloc | apply pw_below_drewN | apply below_drew1) | exact HB.out))) : w.heap.size ≤ gb207)); have n3_ := Aside0.mk ((by rw [hg]; exact (below_size (by repeat (first | (with_reducible first | exact HB.out | apply below_alloc | apply pw_below_drewN | apply below_drew1) | exact HB.out))) : w.heap.size ≤ gb207)); clear HB; have HB := n0_; have BK207 := n1_; have GW207 := n2_; have GE207 := n3_; clear n0_ n1_ n2_ n3_; clear hb hbox hg; have hcz6_0 : w5.cell? ⟨gb207, 0, none⟩ = some (.int .i64 a0_0) := (blk_cell BK207.out 0).trans rfl; have hcz6_1 : w5.cell? ⟨gb207, 1, none⟩ = some (.int .i64 a0_1) := (blk_cell BK207.out 1).trans rfl; have hcz6_2 : w5.cell? ⟨gb207, 2, none⟩ = some (.int .i64 a0_2) := (blk_cell BK207.out 2).trans rfl; have hcz6_3 : w5.cell? ⟨gb207, 3, none⟩ = some (.int .i64 a0_3) := (blk_cell BK207.out 3).trans rfl; have hcz6_4 : w5.cell? ⟨gb207, 4, none⟩ = some (.int .i64 a0_4) := (blk_cell BK207.out 4).trans rfl; have hcz6_5 : w5.cell? ⟨gb207, 5, none⟩ = some (.int .i64 a0_5) := (blk_cell BK207.out 5).trans rfl; have hcz6_6 : w5.cell? ⟨gb207, 6, none⟩ = some (.string a0_6) := (blk_cell BK207.out 6).trans rfl; have hcz6_7 : w5.cell? ⟨gb207, 7, none⟩ = some (.string a0_7) := (blk_cell BK207.out 7).trans rfl; have hcz6_8 : w5.cell? ⟨gb207, 8, none⟩ = some (.slice A0_8 l0_8.length c0_8) := (blk_cell BK207.out 8).trans rfl; have hcz6_9 : w5.cell? ⟨gb207, 9, none⟩ = some (.int .u64 a0_9) := (blk_cell BK207.out 9).trans rfl; have hfz6_0 := blk_frozen BK207.out 0; have hfz6_1 := blk_frozen BK207.out 1; have hfz6_2 := blk_frozen BK207.out 2; have hfz6_3 := blk_frozen BK207.out 3; have hfz6_4 := blk_frozen BK207.out 4; have hfz6_5 := blk_frozen BK207.out 5; have hfz6_6 := blk_frozen BK207.out 6; have hfz6_7 := blk_frozen BK207.out 7; have hfz6_8 := blk_frozen BK207.out 8; have hfz6_9 := blk_frozen BK207.out 9) | ((with_reducible refine gate_callee (f := 33) rfl ?_); refine goesL_ (some 9) rfl rfl Tryd.func33 (by kernel_rfl) rfl #[.string a0_6] rfl (by (try simp only [List.map_toArray, List.map_cons, List.map_nil]); first | done | rfl | (simp only [List.length_drop, List.length_take]; rfl)) ?_; (with_reducible refine (corebankref07_Key.calls k a0_6 true _ A2.out).mono ?_); rintro e w' ⟨rfl, ⟨nd, rfl⟩⟩; refine ⟨_, rfl, ?_⟩))
  (try simp only [Act.put, List.setIfInBounds_toArray, List.set_cons_zero, List.set_cons_succ])
  go_cut [57] (fun v57 wc => ∃ (kq : Nat) (x57_3 : Bool), v57 = .bool x57_3 ∧ Aside0 (corebankref19_Check.j0 kq x57_3 a0_0 a0_1 a0_2 a0_3 a0_4 a0_5 a0_6 a0_7 l0_8 a0_9 = some r) ∧ Aside0 (kq ≤ k) ∧ Aside0 (wc.heap[gb207]? = some (.cells #[.int .i64 a0_0, .int .i64 a0_1, .int .i64 a0_2, .int .i64 a0_3, .int .i64 a0_4, .int .i64 a0_5, .string a0_6, .string a0_7, (.slice A0_8 l0_8.length c0_8), .int .u64 a0_9] 25 (0, 0))) ∧ Aside0 (Below w.heap.size w wc))
  case first =>
   have H := HC4.out
   clear HC4
   replace H := Option.bind_eq_some_iff.mp H
   obtain ⟨t209, A70, H⟩ := H
   try dsimp only at H
   have A7 := Aside0.mk A70
   clear A70
   by_cases c8 : t209 = true
   ·subst c8
    have H1 : ((corebankref04_Valid.f a0_1).bind fun t210 => (if t210 = true then ((corebankref04_Valid.f a0_2).bind fun t211 => (if t211 = true then (if a0_3 < 1 then (corebankref19_Check.j0 k true a0_0 a0_1 a0_2 a0_3 a0_4 a0_5 a0_6 a0_7 l0_8 a0_9) else (if a0_3 > 14 then (corebankref19_Check.j0 k true a0_0 a0_1 a0_2 a0_3 a0_4 a0_5 a0_6 a0_7 l0_8 a0_9) else (if a0_4 < 0 then (corebankref19_Check.j0 k true a0_0 a0_1 a0_2 a0_3 a0_4 a0_5 a0_6 a0_7 l0_8 a0_9) else (if a0_4 > 3 then (corebankref19_Check.j0 k true a0_0 a0_1 a0_2 a0_3 a0_4 a0_5 a0_6 a0_7 l0_8 a0_9) else (if a0_5 = 0 then (corebankref19_Check.j0 k false a0_0 a0_1 a0_2 a0_3 a0_4 a0_5 a0_6 a0_7 l0_8 a0_9) else ((corebankref04_Valid.f a0_5).bind fun t212 => (corebankref19_Check.j0 k (!t212) a0_0 a0_1 a0_2 a0_3 a0_4 a0_5 a0_6 a0_7 l0_8 a0_9))))))) else (corebankref19_Check.j0 k true a0_0 a0_1 a0_2 a0_3 a0_4 a0_5 a0_6 a0_7 l0_8 a0_9))) else (corebankref19_Check.j0 k true a0_0 a0_1 a0_2 a0_3 a0_4 a0_5 a0_6 a0_7 l0_8 a0_9))) = some r := by rw [if_pos rfl] at H; exact H
    clear H
    have H := H1
    clear H1
    replace H := Option.bind_eq_some_iff.mp H
    obtain ⟨t210, A90, H⟩ := H
    try dsimp only at H
    have A9 := Aside0.mk A90
    clear A90
    by_cases c10 : t210 = true
    ·subst c10
     have H1 : ((corebankref04_Valid.f a0_2).bind fun t211 => (if t211 = true then (if a0_3 < 1 then (corebankref19_Check.j0 k true a0_0 a0_1 a0_2 a0_3 a0_4 a0_5 a0_6 a0_7 l0_8 a0_9) else (if a0_3 > 14 then (corebankref19_Check.j0 k true a0_0 a0_1 a0_2 a0_3 a0_4 a0_5 a0_6 a0_7 l0_8 a0_9) else (if a0_4 < 0 then (corebankref19_Check.j0 k true a0_0 a0_1 a0_2 a0_3 a0_4 a0_5 a0_6 a0_7 l0_8 a0_9) else (if a0_4 > 3 then (corebankref19_Check.j0 k true a0_0 a0_1 a0_2 a0_3 a0_4 a0_5 a0_6 a0_7 l0_8 a0_9) else (if a0_5 = 0 then (corebankref19_Check.j0 k false a0_0 a0_1 a0_2 a0_3 a0_4 a0_5 a0_6 a0_7 l0_8 a0_9) else ((corebankref04_Valid.f a0_5).bind fun t212 => (corebankref19_Check.j0 k (!t212) a0_0 a0_1 a0_2 a0_3 a0_4 a0_5 a0_6 a0_7 l0_8 a0_9))))))) else (corebankref19_Check.j0 k true a0_0 a0_1 a0_2 a0_3 a0_4 a0_5 a0_6 a0_7 l0_8 a0_9))) = some r := by rw [if_pos rfl] at H; exact H
     clear H
     have H := H1
     clear H1
     replace H := Option.bind_eq_some_iff.mp H
     obtain ⟨t211, A110, H⟩ := H
     try dsimp only at H
     have A11 := Aside0.mk A110
     clear A110
     by_cases c12 : t211 = true
     ·subst c12
      have H1 : (if a0_3 < 1 then (corebankref19_Check.j0 k true a0_0 a0_1 a0_2 a0_3 a0_4 a0_5 a0_6 a0_7 l0_8 a0_9) else (if a0_3 > 14 then (corebankref19_Check.j0 k true a0_0 a0_1 a0_2 a0_3 a0_4 a0_5 a0_6 a0_7 l0_8 a0_9) else (if a0_4 < 0 then (corebankref19_Check.j0 k true a0_0 a0_1 a0_2 a0_3 a0_4 a0_5 a0_6 a0_7 l0_8 a0_9) else (if a0_4 > 3 then (corebankref19_Check.j0 k true a0_0 a0_1 a0_2 a0_3 a0_4 a0_5 a0_6 a0_7 l0_8 a0_9) else (if a0_5 = 0 then (corebankref19_Check.j0 k false a0_0 a0_1 a0_2 a0_3 a0_4 a0_5 a0_6 a0_7 l0_8 a0_9) else ((corebankref04_Valid.f a0_5).bind fun t212 => (corebankref19_Check.j0 k (!t212) a0_0 a0_1 a0_2 a0_3 a0_4 a0_5 a0_6 a0_7 l0_8 a0_9))))))) = some r := by rw [if_pos rfl] at H; exact H
      clear H
      have H := H1
      clear H1
      by_cases c13 : a0_3 < 1
      ·rw [if_pos c13] at H
       have c13b0 : decide (a0_3 < 1) = true := decide_eq_true c13
       clear c13
       (first | rw [c13b0] | (simp only [i64_w, i32_w]; rw [c13b0]) | skip)
       have H' := Aside0.mk H
       clear H
       have hcz14_0 : w5.cell? ⟨gb207, 0, none⟩ = some (.int .i64 a0_0) := (blk_cell BK207.out 0).trans rfl
       have hcz14_1 : w5.cell? ⟨gb207, 1, none⟩ = some (.int .i64 a0_1) := (blk_cell BK207.out 1).trans rfl
       have hcz14_2 : w5.cell? ⟨gb207, 2, none⟩ = some (.int .i64 a0_2) := (blk_cell BK207.out 2).trans rfl
       have hcz14_3 : w5.cell? ⟨gb207, 3, none⟩ = some (.int .i64 a0_3) := (blk_cell BK207.out 3).trans rfl
       have hcz14_4 : w5.cell? ⟨gb207, 4, none⟩ = some (.int .i64 a0_4) := (blk_cell BK207.out 4).trans rfl
       have hcz14_5 : w5.cell? ⟨gb207, 5, none⟩ = some (.int .i64 a0_5) := (blk_cell BK207.out 5).trans rfl
       have hcz14_6 : w5.cell? ⟨gb207, 6, none⟩ = some (.string a0_6) := (blk_cell BK207.out 6).trans rfl
       have hcz14_7 : w5.cell? ⟨gb207, 7, none⟩ = some (.string a0_7) := (blk_cell BK207.out 7).trans rfl
       have hcz14_8 : w5.cell? ⟨gb207, 8, none⟩ = some (.slice A0_8 l0_8.length c0_8) := (blk_cell BK207.out 8).trans rfl
       have hcz14_9 : w5.cell? ⟨gb207, 9, none⟩ = some (.int .u64 a0_9) := (blk_cell BK207.out 9).trans rfl
       have hfz14_0 := blk_frozen BK207.out 0
       have hfz14_1 := blk_frozen BK207.out 1
       have hfz14_2 := blk_frozen BK207.out 2
       have hfz14_3 := blk_frozen BK207.out 3
       have hfz14_4 := blk_frozen BK207.out 4
       have hfz14_5 := blk_frozen BK207.out 5
       have hfz14_6 := blk_frozen BK207.out 6
       have hfz14_7 := blk_frozen BK207.out 7
       have hfz14_8 := blk_frozen BK207.out 8
       have hfz14_9 := blk_frozen BK207.out 9
       go_wp2_with (first | ((with_reducible refine gate_callee (f := 34) rfl ?_); refine goesL_ (some 13) rfl rfl Tryd.func34 (by kernel_rfl) rfl #[.string a0_7, .int .i64 64, .int .u8 32] rfl (by (try simp only [List.map_toArray, List.map_cons, List.map_nil]); first | done | rfl | (simp only [List.length_drop, List.length_take]; rfl)) ?_; (with_reducible refine (corebankref07_Printed.calls k a0_7 64 32 true _ A7.out).mono ?_); rintro e w' ⟨rfl, ⟨nd, rfl⟩⟩; refine ⟨_, rfl, ?_⟩) | (go_at_call 35; (with_reducible refine (corebankref04_Valid.calls a0_1 true _ A9.out).mono ?_); rintro e w' ⟨rfl, ⟨nd, rfl⟩⟩) | (go_at_call 35; (with_reducible refine (corebankref04_Valid.calls a0_2 true _ A11.out).mono ?_); rintro e w' ⟨rfl, ⟨nd, rfl⟩⟩))
       go_meet
       case rel => exact ⟨_, (true), (by first | rfl | (simp; done) | (simp [*]; done)), H', ⟨by first | omega | exact Nat.le_refl _⟩, ⟨by (with_reducible repeat (first | refine blk_drewN ?_ _ | refine blk_drew ?_ | refine blk_alloc ?_ _)); exact BK207.out⟩, ⟨by repeat (first | (with_reducible first | exact HB.out | apply below_alloc | apply pw_below_drewN | apply below_drew1 | refine below_set ?_ GE207.out) | exact HB.out)⟩⟩
      ·rw [if_neg c13] at H
       have c13b0 : decide (a0_3 < 1) = false := decide_eq_false c13
       clear c13
       (first | rw [c13b0] | (simp only [i64_w, i32_w]; rw [c13b0]) | skip)
       by_cases c15 : a0_3 > 14
       ·rw [if_pos c15] at H
        have c15b0 : decide (14 < a0_3) = true := decide_eq_true c15
        clear c15
        have H' := Aside0.mk H
        clear H
        have hcz16_0 : w5.cell? ⟨gb207, 0, none⟩ = some (.int .i64 a0_0) := (blk_cell BK207.out 0).trans rfl
        have hcz16_1 : w5.cell? ⟨gb207, 1, none⟩ = some (.int .i64 a0_1) := (blk_cell BK207.out 1).trans rfl
        have hcz16_2 : w5.cell? ⟨gb207, 2, none⟩ = some (.int .i64 a0_2) := (blk_cell BK207.out 2).trans rfl
        have hcz16_3 : w5.cell? ⟨gb207, 3, none⟩ = some (.int .i64 a0_3) := (blk_cell BK207.out 3).trans rfl
        have hcz16_4 : w5.cell? ⟨gb207, 4, none⟩ = some (.int .i64 a0_4) := (blk_cell BK207.out 4).trans rfl
        have hcz16_5 : w5.cell? ⟨gb207, 5, none⟩ = some (.int .i64 a0_5) := (blk_cell BK207.out 5).trans rfl
        have hcz16_6 : w5.cell? ⟨gb207, 6, none⟩ = some (.string a0_6) := (blk_cell BK207.out 6).trans rfl
        have hcz16_7 : w5.cell? ⟨gb207, 7, none⟩ = some (.string a0_7) := (blk_cell BK207.out 7).trans rfl
        have hcz16_8 : w5.cell? ⟨gb207, 8, none⟩ = some (.slice A0_8 l0_8.length c0_8) := (blk_cell BK207.out 8).trans rfl
        have hcz16_9 : w5.cell? ⟨gb207, 9, none⟩ = some (.int .u64 a0_9) := (blk_cell BK207.out 9).trans rfl
        have hfz16_0 := blk_frozen BK207.out 0
        have hfz16_1 := blk_frozen BK207.out 1
        have hfz16_2 := blk_frozen BK207.out 2
        have hfz16_3 := blk_frozen BK207.out 3
        have hfz16_4 := blk_frozen BK207.out 4
        have hfz16_5 := blk_frozen BK207.out 5
        have hfz16_6 := blk_frozen BK207.out 6
        have hfz16_7 := blk_frozen BK207.out 7
        have hfz16_8 := blk_frozen BK207.out 8
        have hfz16_9 := blk_frozen BK207.out 9
        go_wp2_with (first | ((with_reducible refine gate_callee (f := 34) rfl ?_); refine goesL_ (some 13) rfl rfl Tryd.func34 (by kernel_rfl) rfl #[.string a0_7, .int .i64 64, .int .u8 32] rfl (by (try simp only [List.map_toArray, List.map_cons, List.map_nil]); first | done | rfl | (simp only [List.length_drop, List.length_take]; rfl)) ?_; (with_reducible refine (corebankref07_Printed.calls k a0_7 64 32 true _ A7.out).mono ?_); rintro e w' ⟨rfl, ⟨nd, rfl⟩⟩; refine ⟨_, rfl, ?_⟩) | (go_at_call 35; (with_reducible refine (corebankref04_Valid.calls a0_1 true _ A9.out).mono ?_); rintro e w' ⟨rfl, ⟨nd, rfl⟩⟩) | (go_at_call 35; (with_reducible refine (corebankref04_Valid.calls a0_2 true _ A11.out).mono ?_); rintro e w' ⟨rfl, ⟨nd, rfl⟩⟩))
        go_meet
        case rel => exact ⟨_, (true), (by first | rfl | (simp; done) | (simp [*]; done)), H', ⟨by first | omega | exact Nat.le_refl _⟩, ⟨by (with_reducible repeat (first | refine blk_drewN ?_ _ | refine blk_drew ?_ | refine blk_alloc ?_ _)); exact BK207.out⟩, ⟨by repeat (first | (with_reducible first | exact HB.out | apply below_alloc | apply pw_below_drewN | apply below_drew1 | refine below_set ?_ GE207.out) | exact HB.out)⟩⟩
       ·rw [if_neg c15] at H
        have c15b0 : decide (14 < a0_3) = false := decide_eq_false c15
        clear c15
        by_cases c17 : a0_4 < 0
        ·rw [if_pos c17] at H
         have c17b0 : decide (a0_4 < 0) = true := decide_eq_true c17
         clear c17
         have H' := Aside0.mk H
         clear H
         have hcz18_0 : w5.cell? ⟨gb207, 0, none⟩ = some (.int .i64 a0_0) := (blk_cell BK207.out 0).trans rfl
         have hcz18_1 : w5.cell? ⟨gb207, 1, none⟩ = some (.int .i64 a0_1) := (blk_cell BK207.out 1).trans rfl
         have hcz18_2 : w5.cell? ⟨gb207, 2, none⟩ = some (.int .i64 a0_2) := (blk_cell BK207.out 2).trans rfl
         have hcz18_3 : w5.cell? ⟨gb207, 3, none⟩ = some (.int .i64 a0_3) := (blk_cell BK207.out 3).trans rfl
         have hcz18_4 : w5.cell? ⟨gb207, 4, none⟩ = some (.int .i64 a0_4) := (blk_cell BK207.out 4).trans rfl
         have hcz18_5 : w5.cell? ⟨gb207, 5, none⟩ = some (.int .i64 a0_5) := (blk_cell BK207.out 5).trans rfl
         have hcz18_6 : w5.cell? ⟨gb207, 6, none⟩ = some (.string a0_6) := (blk_cell BK207.out 6).trans rfl
         have hcz18_7 : w5.cell? ⟨gb207, 7, none⟩ = some (.string a0_7) := (blk_cell BK207.out 7).trans rfl
         have hcz18_8 : w5.cell? ⟨gb207, 8, none⟩ = some (.slice A0_8 l0_8.length c0_8) := (blk_cell BK207.out 8).trans rfl
         have hcz18_9 : w5.cell? ⟨gb207, 9, none⟩ = some (.int .u64 a0_9) := (blk_cell BK207.out 9).trans rfl
         have hfz18_0 := blk_frozen BK207.out 0
         have hfz18_1 := blk_frozen BK207.out 1
         have hfz18_2 := blk_frozen BK207.out 2
         have hfz18_3 := blk_frozen BK207.out 3
         have hfz18_4 := blk_frozen BK207.out 4
         have hfz18_5 := blk_frozen BK207.out 5
         have hfz18_6 := blk_frozen BK207.out 6
         have hfz18_7 := blk_frozen BK207.out 7
         have hfz18_8 := blk_frozen BK207.out 8
         have hfz18_9 := blk_frozen BK207.out 9
         go_wp2_with (first | ((with_reducible refine gate_callee (f := 34) rfl ?_); refine goesL_ (some 13) rfl rfl Tryd.func34 (by kernel_rfl) rfl #[.string a0_7, .int .i64 64, .int .u8 32] rfl (by (try simp only [List.map_toArray, List.map_cons, List.map_nil]); first | done | rfl | (simp only [List.length_drop, List.length_take]; rfl)) ?_; (with_reducible refine (corebankref07_Printed.calls k a0_7 64 32 true _ A7.out).mono ?_); rintro e w' ⟨rfl, ⟨nd, rfl⟩⟩; refine ⟨_, rfl, ?_⟩) | (go_at_call 35; (with_reducible refine (corebankref04_Valid.calls a0_1 true _ A9.out).mono ?_); rintro e w' ⟨rfl, ⟨nd, rfl⟩⟩) | (go_at_call 35; (with_reducible refine (corebankref04_Valid.calls a0_2 true _ A11.out).mono ?_); rintro e w' ⟨rfl, ⟨nd, rfl⟩⟩))
         go_meet
         case rel => exact ⟨_, (true), (by first | rfl | (simp; done) | (simp [*]; done)), H', ⟨by first | omega | exact Nat.le_refl _⟩, ⟨by (with_reducible repeat (first | refine blk_drewN ?_ _ | refine blk_drew ?_ | refine blk_alloc ?_ _)); exact BK207.out⟩, ⟨by repeat (first | (with_reducible first | exact HB.out | apply below_alloc | apply pw_below_drewN | apply below_drew1 | refine below_set ?_ GE207.out) | exact HB.out)⟩⟩
        ·rw [if_neg c17] at H
         have c17b0 : decide (a0_4 < 0) = false := decide_eq_false c17
         clear c17
         by_cases c19 : a0_4 > 3
         ·rw [if_pos c19] at H
          have c19b0 : decide (3 < a0_4) = true := decide_eq_true c19
          clear c19
          have H' := Aside0.mk H
          clear H
          have hcz20_0 : w5.cell? ⟨gb207, 0, none⟩ = some (.int .i64 a0_0) := (blk_cell BK207.out 0).trans rfl
          have hcz20_1 : w5.cell? ⟨gb207, 1, none⟩ = some (.int .i64 a0_1) := (blk_cell BK207.out 1).trans rfl
          have hcz20_2 : w5.cell? ⟨gb207, 2, none⟩ = some (.int .i64 a0_2) := (blk_cell BK207.out 2).trans rfl
          have hcz20_3 : w5.cell? ⟨gb207, 3, none⟩ = some (.int .i64 a0_3) := (blk_cell BK207.out 3).trans rfl
          have hcz20_4 : w5.cell? ⟨gb207, 4, none⟩ = some (.int .i64 a0_4) := (blk_cell BK207.out 4).trans rfl
          have hcz20_5 : w5.cell? ⟨gb207, 5, none⟩ = some (.int .i64 a0_5) := (blk_cell BK207.out 5).trans rfl
          have hcz20_6 : w5.cell? ⟨gb207, 6, none⟩ = some (.string a0_6) := (blk_cell BK207.out 6).trans rfl
          have hcz20_7 : w5.cell? ⟨gb207, 7, none⟩ = some (.string a0_7) := (blk_cell BK207.out 7).trans rfl
          have hcz20_8 : w5.cell? ⟨gb207, 8, none⟩ = some (.slice A0_8 l0_8.length c0_8) := (blk_cell BK207.out 8).trans rfl
          have hcz20_9 : w5.cell? ⟨gb207, 9, none⟩ = some (.int .u64 a0_9) := (blk_cell BK207.out 9).trans rfl
          have hfz20_0 := blk_frozen BK207.out 0
          have hfz20_1 := blk_frozen BK207.out 1
          have hfz20_2 := blk_frozen BK207.out 2
          have hfz20_3 := blk_frozen BK207.out 3
          have hfz20_4 := blk_frozen BK207.out 4
          have hfz20_5 := blk_frozen BK207.out 5
          have hfz20_6 := blk_frozen BK207.out 6
          have hfz20_7 := blk_frozen BK207.out 7
          have hfz20_8 := blk_frozen BK207.out 8
          have hfz20_9 := blk_frozen BK207.out 9
          go_wp2_with (first | ((with_reducible refine gate_callee (f := 34) rfl ?_); refine goesL_ (some 13) rfl rfl Tryd.func34 (by kernel_rfl) rfl #[.string a0_7, .int .i64 64, .int .u8 32] rfl (by (try simp only [List.map_toArray, List.map_cons, List.map_nil]); first | done | rfl | (simp only [List.length_drop, List.length_take]; rfl)) ?_; (with_reducible refine (corebankref07_Printed.calls k a0_7 64 32 true _ A7.out).mono ?_); rintro e w' ⟨rfl, ⟨nd, rfl⟩⟩; refine ⟨_, rfl, ?_⟩) | (go_at_call 35; (with_reducible refine (corebankref04_Valid.calls a0_1 true _ A9.out).mono ?_); rintro e w' ⟨rfl, ⟨nd, rfl⟩⟩) | (go_at_call 35; (with_reducible refine (corebankref04_Valid.calls a0_2 true _ A11.out).mono ?_); rintro e w' ⟨rfl, ⟨nd, rfl⟩⟩))
          go_meet
          case rel => exact ⟨_, (true), (by first | rfl | (simp; done) | (simp [*]; done)), H', ⟨by first | omega | exact Nat.le_refl _⟩, ⟨by (with_reducible repeat (first | refine blk_drewN ?_ _ | refine blk_drew ?_ | refine blk_alloc ?_ _)); exact BK207.out⟩, ⟨by repeat (first | (with_reducible first | exact HB.out | apply below_alloc | apply pw_below_drewN | apply below_drew1 | refine below_set ?_ GE207.out) | exact HB.out)⟩⟩
         ·rw [if_neg c19] at H
          have c19b0 : decide (3 < a0_4) = false := decide_eq_false c19
          clear c19
          by_cases c21 : a0_5 = 0
          ·rw [if_pos c21] at H
           have c21b0 : (a0_5 == 0) = true := beq_iff_eq.mpr c21
           have c21b1 : (a0_5 != 0) = false := bne_eq_false_iff_eq.mpr c21
           clear c21
           have H' := Aside0.mk H
           clear H
           have hcz22_0 : w5.cell? ⟨gb207, 0, none⟩ = some (.int .i64 a0_0) := (blk_cell BK207.out 0).trans rfl
           have hcz22_1 : w5.cell? ⟨gb207, 1, none⟩ = some (.int .i64 a0_1) := (blk_cell BK207.out 1).trans rfl
           have hcz22_2 : w5.cell? ⟨gb207, 2, none⟩ = some (.int .i64 a0_2) := (blk_cell BK207.out 2).trans rfl
           have hcz22_3 : w5.cell? ⟨gb207, 3, none⟩ = some (.int .i64 a0_3) := (blk_cell BK207.out 3).trans rfl
           have hcz22_4 : w5.cell? ⟨gb207, 4, none⟩ = some (.int .i64 a0_4) := (blk_cell BK207.out 4).trans rfl
           have hcz22_5 : w5.cell? ⟨gb207, 5, none⟩ = some (.int .i64 a0_5) := (blk_cell BK207.out 5).trans rfl
           have hcz22_6 : w5.cell? ⟨gb207, 6, none⟩ = some (.string a0_6) := (blk_cell BK207.out 6).trans rfl
           have hcz22_7 : w5.cell? ⟨gb207, 7, none⟩ = some (.string a0_7) := (blk_cell BK207.out 7).trans rfl
           have hcz22_8 : w5.cell? ⟨gb207, 8, none⟩ = some (.slice A0_8 l0_8.length c0_8) := (blk_cell BK207.out 8).trans rfl
           have hcz22_9 : w5.cell? ⟨gb207, 9, none⟩ = some (.int .u64 a0_9) := (blk_cell BK207.out 9).trans rfl
           have hfz22_0 := blk_frozen BK207.out 0
           have hfz22_1 := blk_frozen BK207.out 1
           have hfz22_2 := blk_frozen BK207.out 2
           have hfz22_3 := blk_frozen BK207.out 3
           have hfz22_4 := blk_frozen BK207.out 4
           have hfz22_5 := blk_frozen BK207.out 5
           have hfz22_6 := blk_frozen BK207.out 6
           have hfz22_7 := blk_frozen BK207.out 7
           have hfz22_8 := blk_frozen BK207.out 8
           have hfz22_9 := blk_frozen BK207.out 9
           go_wp2_with (first | ((with_reducible refine gate_callee (f := 34) rfl ?_); refine goesL_ (some 13) rfl rfl Tryd.func34 (by kernel_rfl) rfl #[.string a0_7, .int .i64 64, .int .u8 32] rfl (by (try simp only [List.map_toArray, List.map_cons, List.map_nil]); first | done | rfl | (simp only [List.length_drop, List.length_take]; rfl)) ?_; (with_reducible refine (corebankref07_Printed.calls k a0_7 64 32 true _ A7.out).mono ?_); rintro e w' ⟨rfl, ⟨nd, rfl⟩⟩; refine ⟨_, rfl, ?_⟩) | (go_at_call 35; (with_reducible refine (corebankref04_Valid.calls a0_1 true _ A9.out).mono ?_); rintro e w' ⟨rfl, ⟨nd, rfl⟩⟩) | (go_at_call 35; (with_reducible refine (corebankref04_Valid.calls a0_2 true _ A11.out).mono ?_); rintro e w' ⟨rfl, ⟨nd, rfl⟩⟩))
           go_meet
           case rel => exact ⟨_, (false), (by first | rfl | (simp; done) | (simp [*]; done)), H', ⟨by first | omega | exact Nat.le_refl _⟩, ⟨by (with_reducible repeat (first | refine blk_drewN ?_ _ | refine blk_drew ?_ | refine blk_alloc ?_ _)); exact BK207.out⟩, ⟨by repeat (first | (with_reducible first | exact HB.out | apply below_alloc | apply pw_below_drewN | apply below_drew1 | refine below_set ?_ GE207.out) | exact HB.out)⟩⟩
          ·rw [if_neg c21] at H
           have c21b0 : (a0_5 == 0) = false := beq_eq_false_iff_ne.mpr c21
           have c21b1 : (a0_5 != 0) = true := bne_iff_ne.mpr c21
           replace H := Option.bind_eq_some_iff.mp H
           obtain ⟨t212, A230, H⟩ := H
           replace H : (corebankref19_Check.j0 k (!t212) a0_0 a0_1 a0_2 a0_3 a0_4 a0_5 a0_6 a0_7 l0_8 a0_9) = some r := H
           have A23 := Aside0.mk A230
           clear A230
           have H' := Aside0.mk H
           clear H
           have hcz24_0 : w5.cell? ⟨gb207, 0, none⟩ = some (.int .i64 a0_0) := (blk_cell BK207.out 0).trans rfl
           have hcz24_1 : w5.cell? ⟨gb207, 1, none⟩ = some (.int .i64 a0_1) := (blk_cell BK207.out 1).trans rfl
           have hcz24_2 : w5.cell? ⟨gb207, 2, none⟩ = some (.int .i64 a0_2) := (blk_cell BK207.out 2).trans rfl
           have hcz24_3 : w5.cell? ⟨gb207, 3, none⟩ = some (.int .i64 a0_3) := (blk_cell BK207.out 3).trans rfl
           have hcz24_4 : w5.cell? ⟨gb207, 4, none⟩ = some (.int .i64 a0_4) := (blk_cell BK207.out 4).trans rfl
           have hcz24_5 : w5.cell? ⟨gb207, 5, none⟩ = some (.int .i64 a0_5) := (blk_cell BK207.out 5).trans rfl
           have hcz24_6 : w5.cell? ⟨gb207, 6, none⟩ = some (.string a0_6) := (blk_cell BK207.out 6).trans rfl
           have hcz24_7 : w5.cell? ⟨gb207, 7, none⟩ = some (.string a0_7) := (blk_cell BK207.out 7).trans rfl
           have hcz24_8 : w5.cell? ⟨gb207, 8, none⟩ = some (.slice A0_8 l0_8.length c0_8) := (blk_cell BK207.out 8).trans rfl
           have hcz24_9 : w5.cell? ⟨gb207, 9, none⟩ = some (.int .u64 a0_9) := (blk_cell BK207.out 9).trans rfl
           have hfz24_0 := blk_frozen BK207.out 0
           have hfz24_1 := blk_frozen BK207.out 1
           have hfz24_2 := blk_frozen BK207.out 2
           have hfz24_3 := blk_frozen BK207.out 3
           have hfz24_4 := blk_frozen BK207.out 4
           have hfz24_5 := blk_frozen BK207.out 5
           have hfz24_6 := blk_frozen BK207.out 6
           have hfz24_7 := blk_frozen BK207.out 7
           have hfz24_8 := blk_frozen BK207.out 8
           have hfz24_9 := blk_frozen BK207.out 9
           go_wp2_with (first | ((with_reducible refine gate_callee (f := 34) rfl ?_); refine goesL_ (some 13) rfl rfl Tryd.func34 (by kernel_rfl) rfl #[.string a0_7, .int .i64 64, .int .u8 32] rfl (by (try simp only [List.map_toArray, List.map_cons, List.map_nil]); first | done | rfl | (simp only [List.length_drop, List.length_take]; rfl)) ?_; (with_reducible refine (corebankref07_Printed.calls k a0_7 64 32 true _ A7.out).mono ?_); rintro e w' ⟨rfl, ⟨nd, rfl⟩⟩; refine ⟨_, rfl, ?_⟩) | (go_at_call 35; (with_reducible refine (corebankref04_Valid.calls a0_1 true _ A9.out).mono ?_); rintro e w' ⟨rfl, ⟨nd, rfl⟩⟩) | (go_at_call 35; (with_reducible refine (corebankref04_Valid.calls a0_2 true _ A11.out).mono ?_); rintro e w' ⟨rfl, ⟨nd, rfl⟩⟩) | (go_at_call 35; (with_reducible refine (corebankref04_Valid.calls a0_5 t212 _ A23.out).mono ?_); rintro e w' ⟨rfl, ⟨nd, rfl⟩⟩))
           go_meet
           case rel => exact ⟨_, (!t212), (by first | rfl | (simp; done) | (simp [*]; done)), H', ⟨by first | omega | exact Nat.le_refl _⟩, ⟨by (with_reducible repeat (first | refine blk_drewN ?_ _ | refine blk_drew ?_ | refine blk_alloc ?_ _)); exact BK207.out⟩, ⟨by repeat (first | (with_reducible first | exact HB.out | apply below_alloc | apply pw_below_drewN | apply below_drew1 | refine below_set ?_ GE207.out) | exact HB.out)⟩⟩
     ·replace c12 := Bool.eq_false_iff.mpr c12
      subst c12
      have H1 : (corebankref19_Check.j0 k true a0_0 a0_1 a0_2 a0_3 a0_4 a0_5 a0_6 a0_7 l0_8 a0_9) = some r := by rw [if_neg (show ¬ (false = true) by decide)] at H; exact H
      clear H
      have H := H1
      clear H1
      have H' := Aside0.mk H
      clear H
      have hcz25_0 : w5.cell? ⟨gb207, 0, none⟩ = some (.int .i64 a0_0) := (blk_cell BK207.out 0).trans rfl
      have hcz25_1 : w5.cell? ⟨gb207, 1, none⟩ = some (.int .i64 a0_1) := (blk_cell BK207.out 1).trans rfl
      have hcz25_2 : w5.cell? ⟨gb207, 2, none⟩ = some (.int .i64 a0_2) := (blk_cell BK207.out 2).trans rfl
      have hcz25_3 : w5.cell? ⟨gb207, 3, none⟩ = some (.int .i64 a0_3) := (blk_cell BK207.out 3).trans rfl
      have hcz25_4 : w5.cell? ⟨gb207, 4, none⟩ = some (.int .i64 a0_4) := (blk_cell BK207.out 4).trans rfl
      have hcz25_5 : w5.cell? ⟨gb207, 5, none⟩ = some (.int .i64 a0_5) := (blk_cell BK207.out 5).trans rfl
      have hcz25_6 : w5.cell? ⟨gb207, 6, none⟩ = some (.string a0_6) := (blk_cell BK207.out 6).trans rfl
      have hcz25_7 : w5.cell? ⟨gb207, 7, none⟩ = some (.string a0_7) := (blk_cell BK207.out 7).trans rfl
      have hcz25_8 : w5.cell? ⟨gb207, 8, none⟩ = some (.slice A0_8 l0_8.length c0_8) := (blk_cell BK207.out 8).trans rfl
      have hcz25_9 : w5.cell? ⟨gb207, 9, none⟩ = some (.int .u64 a0_9) := (blk_cell BK207.out 9).trans rfl
      have hfz25_0 := blk_frozen BK207.out 0
      have hfz25_1 := blk_frozen BK207.out 1
      have hfz25_2 := blk_frozen BK207.out 2
      have hfz25_3 := blk_frozen BK207.out 3
      have hfz25_4 := blk_frozen BK207.out 4
      have hfz25_5 := blk_frozen BK207.out 5
      have hfz25_6 := blk_frozen BK207.out 6
      have hfz25_7 := blk_frozen BK207.out 7
      have hfz25_8 := blk_frozen BK207.out 8
      have hfz25_9 := blk_frozen BK207.out 9
      go_wp2_with (first | ((with_reducible refine gate_callee (f := 34) rfl ?_); refine goesL_ (some 13) rfl rfl Tryd.func34 (by kernel_rfl) rfl #[.string a0_7, .int .i64 64, .int .u8 32] rfl (by (try simp only [List.map_toArray, List.map_cons, List.map_nil]); first | done | rfl | (simp only [List.length_drop, List.length_take]; rfl)) ?_; (with_reducible refine (corebankref07_Printed.calls k a0_7 64 32 true _ A7.out).mono ?_); rintro e w' ⟨rfl, ⟨nd, rfl⟩⟩; refine ⟨_, rfl, ?_⟩) | (go_at_call 35; (with_reducible refine (corebankref04_Valid.calls a0_1 true _ A9.out).mono ?_); rintro e w' ⟨rfl, ⟨nd, rfl⟩⟩) | (go_at_call 35; (with_reducible refine (corebankref04_Valid.calls a0_2 false _ A11.out).mono ?_); rintro e w' ⟨rfl, ⟨nd, rfl⟩⟩))
      go_meet
      case rel => exact ⟨_, (true), (by first | rfl | (simp; done) | (simp [*]; done)), H', ⟨by first | omega | exact Nat.le_refl _⟩, ⟨by (with_reducible repeat (first | refine blk_drewN ?_ _ | refine blk_drew ?_ | refine blk_alloc ?_ _)); exact BK207.out⟩, ⟨by repeat (first | (with_reducible first | exact HB.out | apply below_alloc | apply pw_below_drewN | apply below_drew1 | refine below_set ?_ GE207.out) | exact HB.out)⟩⟩
    ·replace c10 := Bool.eq_false_iff.mpr c10
     subst c10
     have H1 : (corebankref19_Check.j0 k true a0_0 a0_1 a0_2 a0_3 a0_4 a0_5 a0_6 a0_7 l0_8 a0_9) = some r := by rw [if_neg (show ¬ (false = true) by decide)] at H; exact H
     clear H
     have H := H1
     clear H1
     have H' := Aside0.mk H
     clear H
     have hcz26_0 : w5.cell? ⟨gb207, 0, none⟩ = some (.int .i64 a0_0) := (blk_cell BK207.out 0).trans rfl
     have hcz26_1 : w5.cell? ⟨gb207, 1, none⟩ = some (.int .i64 a0_1) := (blk_cell BK207.out 1).trans rfl
     have hcz26_2 : w5.cell? ⟨gb207, 2, none⟩ = some (.int .i64 a0_2) := (blk_cell BK207.out 2).trans rfl
     have hcz26_3 : w5.cell? ⟨gb207, 3, none⟩ = some (.int .i64 a0_3) := (blk_cell BK207.out 3).trans rfl
     have hcz26_4 : w5.cell? ⟨gb207, 4, none⟩ = some (.int .i64 a0_4) := (blk_cell BK207.out 4).trans rfl
     have hcz26_5 : w5.cell? ⟨gb207, 5, none⟩ = some (.int .i64 a0_5) := (blk_cell BK207.out 5).trans rfl
     have hcz26_6 : w5.cell? ⟨gb207, 6, none⟩ = some (.string a0_6) := (blk_cell BK207.out 6).trans rfl
     have hcz26_7 : w5.cell? ⟨gb207, 7, none⟩ = some (.string a0_7) := (blk_cell BK207.out 7).trans rfl
     have hcz26_8 : w5.cell? ⟨gb207, 8, none⟩ = some (.slice A0_8 l0_8.length c0_8) := (blk_cell BK207.out 8).trans rfl
     have hcz26_9 : w5.cell? ⟨gb207, 9, none⟩ = some (.int .u64 a0_9) := (blk_cell BK207.out 9).trans rfl
     have hfz26_0 := blk_frozen BK207.out 0
     have hfz26_1 := blk_frozen BK207.out 1
     have hfz26_2 := blk_frozen BK207.out 2
     have hfz26_3 := blk_frozen BK207.out 3
     have hfz26_4 := blk_frozen BK207.out 4
     have hfz26_5 := blk_frozen BK207.out 5
     have hfz26_6 := blk_frozen BK207.out 6
     have hfz26_7 := blk_frozen BK207.out 7
     have hfz26_8 := blk_frozen BK207.out 8
     have hfz26_9 := blk_frozen BK207.out 9
     go_wp2_with (first | ((with_reducible refine gate_callee (f := 34) rfl ?_); refine goesL_ (some 13) rfl rfl Tryd.func34 (by kernel_rfl) rfl #[.string a0_7, .int .i64 64, .int .u8 32] rfl (by (try simp only [List.map_toArray, List.map_cons, List.map_nil]); first | done | rfl | (simp only [List.length_drop, List.length_take]; rfl)) ?_; (with_reducible refine (corebankref07_Printed.calls k a0_7 64 32 true _ A7.out).mono ?_); rintro e w' ⟨rfl, ⟨nd, rfl⟩⟩; refine ⟨_, rfl, ?_⟩) | (go_at_call 35; (with_reducible refine (corebankref04_Valid.calls a0_1 false _ A9.out).mono ?_); rintro e w' ⟨rfl, ⟨nd, rfl⟩⟩))
     go_meet
     case rel => exact ⟨_, (true), (by first | rfl | (simp; done) | (simp [*]; done)), H', ⟨by first | omega | exact Nat.le_refl _⟩, ⟨by (with_reducible repeat (first | refine blk_drewN ?_ _ | refine blk_drew ?_ | refine blk_alloc ?_ _)); exact BK207.out⟩, ⟨by repeat (first | (with_reducible first | exact HB.out | apply below_alloc | apply pw_below_drewN | apply below_drew1 | refine below_set ?_ GE207.out) | exact HB.out)⟩⟩
   ·replace c8 := Bool.eq_false_iff.mpr c8
    subst c8
    have H1 : (corebankref19_Check.j0 k true a0_0 a0_1 a0_2 a0_3 a0_4 a0_5 a0_6 a0_7 l0_8 a0_9) = some r := by rw [if_neg (show ¬ (false = true) by decide)] at H; exact H
    clear H
    have H := H1
    clear H1
    have H' := Aside0.mk H
    clear H
    have hcz27_0 : w5.cell? ⟨gb207, 0, none⟩ = some (.int .i64 a0_0) := (blk_cell BK207.out 0).trans rfl
    have hcz27_1 : w5.cell? ⟨gb207, 1, none⟩ = some (.int .i64 a0_1) := (blk_cell BK207.out 1).trans rfl
    have hcz27_2 : w5.cell? ⟨gb207, 2, none⟩ = some (.int .i64 a0_2) := (blk_cell BK207.out 2).trans rfl
    have hcz27_3 : w5.cell? ⟨gb207, 3, none⟩ = some (.int .i64 a0_3) := (blk_cell BK207.out 3).trans rfl
    have hcz27_4 : w5.cell? ⟨gb207, 4, none⟩ = some (.int .i64 a0_4) := (blk_cell BK207.out 4).trans rfl
    have hcz27_5 : w5.cell? ⟨gb207, 5, none⟩ = some (.int .i64 a0_5) := (blk_cell BK207.out 5).trans rfl
    have hcz27_6 : w5.cell? ⟨gb207, 6, none⟩ = some (.string a0_6) := (blk_cell BK207.out 6).trans rfl
    have hcz27_7 : w5.cell? ⟨gb207, 7, none⟩ = some (.string a0_7) := (blk_cell BK207.out 7).trans rfl
    have hcz27_8 : w5.cell? ⟨gb207, 8, none⟩ = some (.slice A0_8 l0_8.length c0_8) := (blk_cell BK207.out 8).trans rfl
    have hcz27_9 : w5.cell? ⟨gb207, 9, none⟩ = some (.int .u64 a0_9) := (blk_cell BK207.out 9).trans rfl
    have hfz27_0 := blk_frozen BK207.out 0
    have hfz27_1 := blk_frozen BK207.out 1
    have hfz27_2 := blk_frozen BK207.out 2
    have hfz27_3 := blk_frozen BK207.out 3
    have hfz27_4 := blk_frozen BK207.out 4
    have hfz27_5 := blk_frozen BK207.out 5
    have hfz27_6 := blk_frozen BK207.out 6
    have hfz27_7 := blk_frozen BK207.out 7
    have hfz27_8 := blk_frozen BK207.out 8
    have hfz27_9 := blk_frozen BK207.out 9
    go_wp2_with (first | ((with_reducible refine gate_callee (f := 34) rfl ?_); refine goesL_ (some 13) rfl rfl Tryd.func34 (by kernel_rfl) rfl #[.string a0_7, .int .i64 64, .int .u8 32] rfl (by (try simp only [List.map_toArray, List.map_cons, List.map_nil]); first | done | rfl | (simp only [List.length_drop, List.length_take]; rfl)) ?_; (with_reducible refine (corebankref07_Printed.calls k a0_7 64 32 false _ A7.out).mono ?_); rintro e w' ⟨rfl, ⟨nd, rfl⟩⟩; refine ⟨_, rfl, ?_⟩))
    go_meet
    case rel => exact ⟨_, (true), (by first | rfl | (simp; done) | (simp [*]; done)), H', ⟨by first | omega | exact Nat.le_refl _⟩, ⟨by (with_reducible repeat (first | refine blk_drewN ?_ _ | refine blk_drew ?_ | refine blk_alloc ?_ _)); exact BK207.out⟩, ⟨by repeat (first | (with_reducible first | exact HB.out | apply below_alloc | apply pw_below_drewN | apply below_drew1 | refine below_set ?_ GE207.out) | exact HB.out)⟩⟩
  case rest =>
   clear HC4
   obtain ⟨kq, x57_3, rfl, HA, HJ3, BK207, HB⟩ := hcut
   cases kq with
   | zero => exact absurd HA.out (by simp [corebankref19_Check.j0])
   | succ kj3 =>
    have H := HA.out
    clear HA
    simp only [corebankref19_Check.j0] at H
    by_cases c28 : x57_3 = true
    ·subst c28
     have H1 : (some 1) = some r := by rw [if_pos rfl] at H; exact H
     clear H
     have H := H1
     clear H1
     obtain rfl := Option.some.inj H
     go_wp2
     go_ret
     exact ⟨by first | rfl | (simp [errW_none, errW_some] <;> rfl) | (simp [*, errW_none, errW_some] <;> rfl), by repeat (first | (with_reducible first | exact HB.out | apply below_alloc | apply pw_below_drewN | apply below_drew1 | refine below_set ?_ GE207.out) | exact HB.out)⟩
    ·replace c28 := Bool.eq_false_iff.mpr c28
     subst c28
     have H1 : (if (l0_8.length : Int) < 2 then (corebankref19_Check.j1 kj3 true a0_0 a0_1 a0_2 a0_3 a0_4 a0_5 a0_6 a0_7 l0_8 a0_9) else (corebankref19_Check.j1 kj3 (decide ((l0_8.length : Int) > 12)) a0_0 a0_1 a0_2 a0_3 a0_4 a0_5 a0_6 a0_7 l0_8 a0_9)) = some r := by rw [if_neg (show ¬ (false = true) by decide)] at H; exact H
     clear H
     have H := H1
     clear H1
     have HC29 := Aside0.mk H
     clear H
     go_upto_region 5 with (fail)
     go_cut [67] (fun v67 wc => ∃ (kq : Nat) (x67_28 : Bool), v67 = .bool x67_28 ∧ Aside0 (corebankref19_Check.j1 kq x67_28 a0_0 a0_1 a0_2 a0_3 a0_4 a0_5 a0_6 a0_7 l0_8 a0_9 = some r) ∧ Aside0 (kq ≤ kj3) ∧ Aside0 (wc.heap[gb207]? = some (.cells #[.int .i64 a0_0, .int .i64 a0_1, .int .i64 a0_2, .int .i64 a0_3, .int .i64 a0_4, .int .i64 a0_5, .string a0_6, .string a0_7, (.slice A0_8 l0_8.length c0_8), .int .u64 a0_9] 25 (0, 0))) ∧ Aside0 (Below w.heap.size w wc))
     case first =>
      have H := HC29.out
      clear HC29
      by_cases c30 : (l0_8.length : Int) < 2
      ·rw [if_pos c30] at H
       have c30b0 : decide ((l0_8.length : Int) < 2) = true := decide_eq_true c30
       have c30b1 : decide (l0_8.length < 2) = true := decide_eq_true (by omega)
       clear c30
       (first | rw [c30b0] | (simp only [i64_w, i32_w]; rw [c30b0]) | skip)
       have H' := Aside0.mk H
       clear H
       have hcz31_0 : wc.cell? ⟨gb207, 0, none⟩ = some (.int .i64 a0_0) := (blk_cell BK207.out 0).trans rfl
       have hcz31_1 : wc.cell? ⟨gb207, 1, none⟩ = some (.int .i64 a0_1) := (blk_cell BK207.out 1).trans rfl
       have hcz31_2 : wc.cell? ⟨gb207, 2, none⟩ = some (.int .i64 a0_2) := (blk_cell BK207.out 2).trans rfl
       have hcz31_3 : wc.cell? ⟨gb207, 3, none⟩ = some (.int .i64 a0_3) := (blk_cell BK207.out 3).trans rfl
       have hcz31_4 : wc.cell? ⟨gb207, 4, none⟩ = some (.int .i64 a0_4) := (blk_cell BK207.out 4).trans rfl
       have hcz31_5 : wc.cell? ⟨gb207, 5, none⟩ = some (.int .i64 a0_5) := (blk_cell BK207.out 5).trans rfl
       have hcz31_6 : wc.cell? ⟨gb207, 6, none⟩ = some (.string a0_6) := (blk_cell BK207.out 6).trans rfl
       have hcz31_7 : wc.cell? ⟨gb207, 7, none⟩ = some (.string a0_7) := (blk_cell BK207.out 7).trans rfl
       have hcz31_8 : wc.cell? ⟨gb207, 8, none⟩ = some (.slice A0_8 l0_8.length c0_8) := (blk_cell BK207.out 8).trans rfl
       have hcz31_9 : wc.cell? ⟨gb207, 9, none⟩ = some (.int .u64 a0_9) := (blk_cell BK207.out 9).trans rfl
       have hfz31_0 := blk_frozen BK207.out 0
       have hfz31_1 := blk_frozen BK207.out 1
       have hfz31_2 := blk_frozen BK207.out 2
       have hfz31_3 := blk_frozen BK207.out 3
       have hfz31_4 := blk_frozen BK207.out 4
       have hfz31_5 := blk_frozen BK207.out 5
       have hfz31_6 := blk_frozen BK207.out 6
       have hfz31_7 := blk_frozen BK207.out 7
       have hfz31_8 := blk_frozen BK207.out 8
       have hfz31_9 := blk_frozen BK207.out 9
       go_wp2
       go_meet
       case rel => exact ⟨_, (true), (by first | rfl | (simp; done) | (simp [*]; done)), H', ⟨by have := HJ3.out; first | omega | exact Nat.le_refl _⟩, ⟨by (with_reducible repeat (first | refine blk_drewN ?_ _ | refine blk_drew ?_ | refine blk_alloc ?_ _)); exact BK207.out⟩, ⟨by repeat (first | (with_reducible first | exact HB.out | apply below_alloc | apply pw_below_drewN | apply below_drew1 | refine below_set ?_ GE207.out) | exact HB.out)⟩⟩
      ·rw [if_neg c30] at H
       have c30b0 : decide ((l0_8.length : Int) < 2) = false := decide_eq_false c30
       have c30b1 : decide (l0_8.length < 2) = false := decide_eq_false (by omega)
       clear c30
       (first | rw [c30b0] | (simp only [i64_w, i32_w]; rw [c30b0]) | skip)
       have H' := Aside0.mk H
       clear H
       have hcz32_0 : wc.cell? ⟨gb207, 0, none⟩ = some (.int .i64 a0_0) := (blk_cell BK207.out 0).trans rfl
       have hcz32_1 : wc.cell? ⟨gb207, 1, none⟩ = some (.int .i64 a0_1) := (blk_cell BK207.out 1).trans rfl
       have hcz32_2 : wc.cell? ⟨gb207, 2, none⟩ = some (.int .i64 a0_2) := (blk_cell BK207.out 2).trans rfl
       have hcz32_3 : wc.cell? ⟨gb207, 3, none⟩ = some (.int .i64 a0_3) := (blk_cell BK207.out 3).trans rfl
       have hcz32_4 : wc.cell? ⟨gb207, 4, none⟩ = some (.int .i64 a0_4) := (blk_cell BK207.out 4).trans rfl
       have hcz32_5 : wc.cell? ⟨gb207, 5, none⟩ = some (.int .i64 a0_5) := (blk_cell BK207.out 5).trans rfl
       have hcz32_6 : wc.cell? ⟨gb207, 6, none⟩ = some (.string a0_6) := (blk_cell BK207.out 6).trans rfl
       have hcz32_7 : wc.cell? ⟨gb207, 7, none⟩ = some (.string a0_7) := (blk_cell BK207.out 7).trans rfl
       have hcz32_8 : wc.cell? ⟨gb207, 8, none⟩ = some (.slice A0_8 l0_8.length c0_8) := (blk_cell BK207.out 8).trans rfl
       have hcz32_9 : wc.cell? ⟨gb207, 9, none⟩ = some (.int .u64 a0_9) := (blk_cell BK207.out 9).trans rfl
       have hfz32_0 := blk_frozen BK207.out 0
       have hfz32_1 := blk_frozen BK207.out 1
       have hfz32_2 := blk_frozen BK207.out 2
       have hfz32_3 := blk_frozen BK207.out 3
       have hfz32_4 := blk_frozen BK207.out 4
       have hfz32_5 := blk_frozen BK207.out 5
       have hfz32_6 := blk_frozen BK207.out 6
       have hfz32_7 := blk_frozen BK207.out 7
       have hfz32_8 := blk_frozen BK207.out 8
       have hfz32_9 := blk_frozen BK207.out 9
       go_wp2
       go_meet
       case rel => exact ⟨_, (decide ((l0_8.length : Int) > 12)), (by first | rfl | (simp; done) | (simp [*]; done)), H', ⟨by have := HJ3.out; first | omega | exact Nat.le_refl _⟩, ⟨by (with_reducible repeat (first | refine blk_drewN ?_ _ | refine blk_drew ?_ | refine blk_alloc ?_ _)); exact BK207.out⟩, ⟨by repeat (first | (with_reducible first | exact HB.out | apply below_alloc | apply pw_below_drewN | apply below_drew1 | refine below_set ?_ GE207.out) | exact HB.out)⟩⟩
     case rest =>
      clear HC29
      obtain ⟨kq, x67_28, rfl, HA, HJ28, BK207, HB⟩ := hcut
      cases kq with
      | zero => exact absurd HA.out (by simp [corebankref19_Check.j1])
      | succ kj28 =>
       have H := HA.out
       clear HA
       simp only [corebankref19_Check.j1] at H
       by_cases c33 : x67_28 = true
       ·subst c33
        have H1 : (some 5) = some r := by rw [if_pos rfl] at H; exact H
        clear H
        have H := H1
        clear H1
        obtain rfl := Option.some.inj H
        go_wp2
        go_ret
        exact ⟨by first | rfl | (simp [errW_none, errW_some] <;> rfl) | (simp [*, errW_none, errW_some] <;> rfl), by repeat (first | (with_reducible first | exact HB.out | apply below_alloc | apply pw_below_drewN | apply below_drew1 | refine below_set ?_ GE207.out) | exact HB.out)⟩
       ·replace c33 := Bool.eq_false_iff.mpr c33
        subst c33
        have H1 : (corebankref19_Check.l0 kj28 0 a0_0 a0_1 a0_2 a0_3 a0_4 a0_5 a0_6 a0_7 l0_8 a0_9) = some r := by rw [if_neg (show ¬ (false = true) by decide)] at H; exact H
        clear H
        have H := H1
        clear H1
        have H' := Aside0.mk H
        clear H
        go_wp2
        go_loopg [3] kj28 (fun kq v3 w' => ∃ (x3_3 : Int), v3 = .int .i64 x3_3 ∧ Aside0 (corebankref19_Check.l0 kq x3_3 a0_0 a0_1 a0_2 a0_3 a0_4 a0_5 a0_6 a0_7 l0_8 a0_9 = some r) ∧ Aside0 (kq ≤ kj28) ∧ Aside0 (w'.heap[gb207]? = some (.cells #[.int .i64 a0_0, .int .i64 a0_1, .int .i64 a0_2, .int .i64 a0_3, .int .i64 a0_4, .int .i64 a0_5, .string a0_6, .string a0_7, (.slice A0_8 l0_8.length c0_8), .int .u64 a0_9] 25 (0, 0))) ∧ Aside0 (Below w.heap.size w w'))
        case atStart => exact ⟨(0), (by first | rfl | (simp; done) | (simp [*]; done)), H', ⟨Nat.le_refl _⟩, ⟨by (with_reducible repeat (first | refine blk_drewN ?_ _ | refine blk_drew ?_ | refine blk_alloc ?_ _)); exact BK207.out⟩, ⟨by repeat (first | (with_reducible first | exact HB.out | apply below_alloc | apply pw_below_drewN | apply below_drew1 | refine below_set ?_ GE207.out) | exact HB.out)⟩⟩
        case round =>
         clear H'
         obtain ⟨x3_3, rfl, HA, HK3, BK207, HB⟩ := hrel
         cases gk with
         | zero => exact absurd HA.out (by simp [corebankref19_Check.l0])
         | succ k3 =>
          have H := HA.out
          clear HA
          simp only [corebankref19_Check.l0] at H
          by_cases c34 : x3_3 < (l0_8.length : Int)
          ·rw [if_pos c34] at H
           have c34b0 : decide (x3_3 < (l0_8.length : Int)) = true := decide_eq_true c34
           clear c34
           by_cases c35 : 0 ≤ x3_3
           ·rw [if_pos c35] at H
            have c35b0 : decide (0 ≤ x3_3) = true := decide_eq_true c35
            clear c35
            replace H := Option.bind_eq_some_iff.mp H
            obtain ⟨t214, A360, H⟩ := H
            replace H : (if t214 = 0 then (corebankref19_Check.l0 k3 (wrap64 (x3_3 + 1)) a0_0 a0_1 a0_2 a0_3 a0_4 a0_5 a0_6 a0_7 l0_8 a0_9) else (some t214)) = some r := H
            have A36 := Aside0.mk A360
            clear A360
            by_cases c37 : t214 = 0
            ·rw [if_pos c37] at H
             have c37b0 : (t214 == 0) = true := beq_iff_eq.mpr c37
             have c37b1 : (t214 != 0) = false := bne_eq_false_iff_eq.mpr c37
             clear c37
             have H' := Aside0.mk H
             clear H
             have hcz38_0 : wr.cell? ⟨gb207, 0, none⟩ = some (.int .i64 a0_0) := (blk_cell BK207.out 0).trans rfl
             have hcz38_1 : wr.cell? ⟨gb207, 1, none⟩ = some (.int .i64 a0_1) := (blk_cell BK207.out 1).trans rfl
             have hcz38_2 : wr.cell? ⟨gb207, 2, none⟩ = some (.int .i64 a0_2) := (blk_cell BK207.out 2).trans rfl
             have hcz38_3 : wr.cell? ⟨gb207, 3, none⟩ = some (.int .i64 a0_3) := (blk_cell BK207.out 3).trans rfl
             have hcz38_4 : wr.cell? ⟨gb207, 4, none⟩ = some (.int .i64 a0_4) := (blk_cell BK207.out 4).trans rfl
             have hcz38_5 : wr.cell? ⟨gb207, 5, none⟩ = some (.int .i64 a0_5) := (blk_cell BK207.out 5).trans rfl
             have hcz38_6 : wr.cell? ⟨gb207, 6, none⟩ = some (.string a0_6) := (blk_cell BK207.out 6).trans rfl
             have hcz38_7 : wr.cell? ⟨gb207, 7, none⟩ = some (.string a0_7) := (blk_cell BK207.out 7).trans rfl
             have hcz38_8 : wr.cell? ⟨gb207, 8, none⟩ = some (.slice A0_8 l0_8.length c0_8) := (blk_cell BK207.out 8).trans rfl
             have hcz38_9 : wr.cell? ⟨gb207, 9, none⟩ = some (.int .u64 a0_9) := (blk_cell BK207.out 9).trans rfl
             have hfz38_0 := blk_frozen BK207.out 0
             have hfz38_1 := blk_frozen BK207.out 1
             have hfz38_2 := blk_frozen BK207.out 2
             have hfz38_3 := blk_frozen BK207.out 3
             have hfz38_4 := blk_frozen BK207.out 4
             have hfz38_5 := blk_frozen BK207.out 5
             have hfz38_6 := blk_frozen BK207.out 6
             have hfz38_7 := blk_frozen BK207.out 7
             have hfz38_8 := blk_frozen BK207.out 8
             have hfz38_9 := blk_frozen BK207.out 9
             have p213 : 0 ≤ (x3_3 : Int) := of_decide_eq_true (by first | (with_reducible assumption) | assumption)
             have q213 : x3_3 < (l0_8.length : Int) := of_decide_eq_true (by first | (with_reducible assumption) | assumption)
             obtain ⟨ad213, e213, hx213_0, hx213_1, hx213_2⟩ := at_T46 HR0_8.out x3_3 p213 q213
             cases e213
             replace hx213_0 := (HB.out.cell (World.block_lt_of_cell? w _ hx213_0)).trans hx213_0
             replace hx213_1 := (HB.out.cell (World.block_lt_of_cell? w _ hx213_1)).trans hx213_1
             replace hx213_2 := (HB.out.cell (World.block_lt_of_cell? w _ hx213_2)).trans hx213_2
             replace p213 := eq_true p213
             replace q213 := eq_true q213
             go_wp2_with (first | ((with_reducible refine gate_callee (f := 36) rfl ?_); refine goesL_ (some 80) rfl rfl Tryd.func36 (by kernel_rfl) rfl #[.agg #[.int .i64 ((rd_T46 l0_8 x3_3).f0), .int .i64 ((rd_T46 l0_8 x3_3).f1), .string ((rd_T46 l0_8 x3_3).f2)]] rfl (by (try simp only [List.map_toArray, List.map_cons, List.map_nil]); first | done | rfl | (simp only [List.length_drop, List.length_take]; rfl)) ?_; (with_reducible refine (corebankref19_leg.calls k3 ((rd_T46 l0_8 x3_3).f0) ((rd_T46 l0_8 x3_3).f1) ((rd_T46 l0_8 x3_3).f2) t214 _ A36.out).mono ?_); rintro e w39 ⟨rfl, hb⟩; refine ⟨_, rfl, ?_⟩; have n0_ := Aside0.mk (blk_below (g := gb207) (o := .cells #[.int .i64 a0_0, .int .i64 a0_1, .int .i64 a0_2, .int .i64 a0_3, .int .i64 a0_4, .int .i64 a0_5, .string a0_6, .string a0_7, .slice (some ad213) l0_8.length c0_8, .int .u64 a0_9] 25 (0, 0)) (by (with_reducible repeat (first | refine blk_drewN ?_ _ | refine blk_drew ?_ | refine blk_alloc ?_ _)); exact BK207.out) hb); have n1_ := Aside0.mk (below_step (by repeat (first | (with_reducible first | exact HB.out | apply below_alloc | apply pw_below_drewN | apply below_drew1 | refine below_set ?_ GE207.out) | exact HB.out)) hb); clear BK207; clear HB; have BK207 := n0_; have HB := n1_; clear n0_ n1_; (try clear hb); (try clear hb2); (try clear hk); (try clear hi)))
             go_roundg k3
             case measure => have := HJ3.out; have := HJ28.out; have := HK3.out; omega
             case rel => exact ⟨(wrap64 (x3_3 + 1)), (by first | rfl | (simp; done) | (simp [*]; done)), H', ⟨by have := HJ3.out; have := HJ28.out; have := HK3.out; omega⟩, ⟨by (with_reducible repeat (first | refine blk_drewN ?_ _ | refine blk_drew ?_ | refine blk_alloc ?_ _)); exact BK207.out⟩, ⟨by repeat (first | (with_reducible first | exact HB.out | apply below_alloc | apply pw_below_drewN | apply below_drew1 | refine below_set ?_ GE207.out) | exact HB.out)⟩⟩
            ·rw [if_neg c37] at H
             have c37b0 : (t214 == 0) = false := beq_eq_false_iff_ne.mpr c37
             have c37b1 : (t214 != 0) = true := bne_iff_ne.mpr c37
             obtain rfl := Option.some.inj H
             have hcz40_0 : wr.cell? ⟨gb207, 0, none⟩ = some (.int .i64 a0_0) := (blk_cell BK207.out 0).trans rfl
             have hcz40_1 : wr.cell? ⟨gb207, 1, none⟩ = some (.int .i64 a0_1) := (blk_cell BK207.out 1).trans rfl
             have hcz40_2 : wr.cell? ⟨gb207, 2, none⟩ = some (.int .i64 a0_2) := (blk_cell BK207.out 2).trans rfl
             have hcz40_3 : wr.cell? ⟨gb207, 3, none⟩ = some (.int .i64 a0_3) := (blk_cell BK207.out 3).trans rfl
             have hcz40_4 : wr.cell? ⟨gb207, 4, none⟩ = some (.int .i64 a0_4) := (blk_cell BK207.out 4).trans rfl
             have hcz40_5 : wr.cell? ⟨gb207, 5, none⟩ = some (.int .i64 a0_5) := (blk_cell BK207.out 5).trans rfl
             have hcz40_6 : wr.cell? ⟨gb207, 6, none⟩ = some (.string a0_6) := (blk_cell BK207.out 6).trans rfl
             have hcz40_7 : wr.cell? ⟨gb207, 7, none⟩ = some (.string a0_7) := (blk_cell BK207.out 7).trans rfl
             have hcz40_8 : wr.cell? ⟨gb207, 8, none⟩ = some (.slice A0_8 l0_8.length c0_8) := (blk_cell BK207.out 8).trans rfl
             have hcz40_9 : wr.cell? ⟨gb207, 9, none⟩ = some (.int .u64 a0_9) := (blk_cell BK207.out 9).trans rfl
             have hfz40_0 := blk_frozen BK207.out 0
             have hfz40_1 := blk_frozen BK207.out 1
             have hfz40_2 := blk_frozen BK207.out 2
             have hfz40_3 := blk_frozen BK207.out 3
             have hfz40_4 := blk_frozen BK207.out 4
             have hfz40_5 := blk_frozen BK207.out 5
             have hfz40_6 := blk_frozen BK207.out 6
             have hfz40_7 := blk_frozen BK207.out 7
             have hfz40_8 := blk_frozen BK207.out 8
             have hfz40_9 := blk_frozen BK207.out 9
             have p213 : 0 ≤ (x3_3 : Int) := of_decide_eq_true (by first | (with_reducible assumption) | assumption)
             have q213 : x3_3 < (l0_8.length : Int) := of_decide_eq_true (by first | (with_reducible assumption) | assumption)
             obtain ⟨ad213, e213, hx213_0, hx213_1, hx213_2⟩ := at_T46 HR0_8.out x3_3 p213 q213
             cases e213
             replace hx213_0 := (HB.out.cell (World.block_lt_of_cell? w _ hx213_0)).trans hx213_0
             replace hx213_1 := (HB.out.cell (World.block_lt_of_cell? w _ hx213_1)).trans hx213_1
             replace hx213_2 := (HB.out.cell (World.block_lt_of_cell? w _ hx213_2)).trans hx213_2
             replace p213 := eq_true p213
             replace q213 := eq_true q213
             go_wp2_with (first | ((with_reducible refine gate_callee (f := 36) rfl ?_); refine goesL_ (some 80) rfl rfl Tryd.func36 (by kernel_rfl) rfl #[.agg #[.int .i64 ((rd_T46 l0_8 x3_3).f0), .int .i64 ((rd_T46 l0_8 x3_3).f1), .string ((rd_T46 l0_8 x3_3).f2)]] rfl (by (try simp only [List.map_toArray, List.map_cons, List.map_nil]); first | done | rfl | (simp only [List.length_drop, List.length_take]; rfl)) ?_; (with_reducible refine (corebankref19_leg.calls k3 ((rd_T46 l0_8 x3_3).f0) ((rd_T46 l0_8 x3_3).f1) ((rd_T46 l0_8 x3_3).f2) t214 _ A36.out).mono ?_); rintro e w41 ⟨rfl, hb⟩; refine ⟨_, rfl, ?_⟩; have n0_ := Aside0.mk (blk_below (g := gb207) (o := .cells #[.int .i64 a0_0, .int .i64 a0_1, .int .i64 a0_2, .int .i64 a0_3, .int .i64 a0_4, .int .i64 a0_5, .string a0_6, .string a0_7, .slice (some ad213) l0_8.length c0_8, .int .u64 a0_9] 25 (0, 0)) (by (with_reducible repeat (first | refine blk_drewN ?_ _ | refine blk_drew ?_ | refine blk_alloc ?_ _)); exact BK207.out) hb); have n1_ := Aside0.mk (below_step (by repeat (first | (with_reducible first | exact HB.out | apply below_alloc | apply pw_below_drewN | apply below_drew1 | refine below_set ?_ GE207.out) | exact HB.out)) hb); clear BK207; clear HB; have BK207 := n0_; have HB := n1_; clear n0_ n1_; (try clear hb); (try clear hb2); (try clear hk); (try clear hi)))
             go_ret
             exact ⟨by first | rfl | (simp [errW_none, errW_some] <;> rfl) | (simp [*, errW_none, errW_some] <;> rfl), by repeat (first | (with_reducible first | exact HB.out | apply below_alloc | apply pw_below_drewN | apply below_drew1 | refine below_set ?_ GE207.out) | exact HB.out)⟩
           ·rw [if_neg c35] at H
            exact absurd H (by simp)
          ·rw [if_neg c34] at H
           have c34b0 : decide (x3_3 < (l0_8.length : Int)) = false := decide_eq_false c34
           clear c34
           replace H := Option.bind_eq_some_iff.mp H
           obtain ⟨t215, A420, H⟩ := H
           replace H : (corebankref19_Check.l1 k3 t215 0) = some r := H
           have A42 := Aside0.mk A420
           clear A420
           have H' := Aside0.mk H
           clear H
           have hcz43_0 : wr.cell? ⟨gb207, 0, none⟩ = some (.int .i64 a0_0) := (blk_cell BK207.out 0).trans rfl
           have hcz43_1 : wr.cell? ⟨gb207, 1, none⟩ = some (.int .i64 a0_1) := (blk_cell BK207.out 1).trans rfl
           have hcz43_2 : wr.cell? ⟨gb207, 2, none⟩ = some (.int .i64 a0_2) := (blk_cell BK207.out 2).trans rfl
           have hcz43_3 : wr.cell? ⟨gb207, 3, none⟩ = some (.int .i64 a0_3) := (blk_cell BK207.out 3).trans rfl
           have hcz43_4 : wr.cell? ⟨gb207, 4, none⟩ = some (.int .i64 a0_4) := (blk_cell BK207.out 4).trans rfl
           have hcz43_5 : wr.cell? ⟨gb207, 5, none⟩ = some (.int .i64 a0_5) := (blk_cell BK207.out 5).trans rfl
           have hcz43_6 : wr.cell? ⟨gb207, 6, none⟩ = some (.string a0_6) := (blk_cell BK207.out 6).trans rfl
           have hcz43_7 : wr.cell? ⟨gb207, 7, none⟩ = some (.string a0_7) := (blk_cell BK207.out 7).trans rfl
           have hcz43_8 : wr.cell? ⟨gb207, 8, none⟩ = some (.slice A0_8 l0_8.length c0_8) := (blk_cell BK207.out 8).trans rfl
           have hcz43_9 : wr.cell? ⟨gb207, 9, none⟩ = some (.int .u64 a0_9) := (blk_cell BK207.out 9).trans rfl
           have hfz43_0 := blk_frozen BK207.out 0
           have hfz43_1 := blk_frozen BK207.out 1
           have hfz43_2 := blk_frozen BK207.out 2
           have hfz43_3 := blk_frozen BK207.out 3
           have hfz43_4 := blk_frozen BK207.out 4
           have hfz43_5 := blk_frozen BK207.out 5
           have hfz43_6 := blk_frozen BK207.out 6
           have hfz43_7 := blk_frozen BK207.out 7
           have hfz43_8 := blk_frozen BK207.out 8
           have hfz43_9 := blk_frozen BK207.out 9
           go_wp2_with (first | ((with_reducible refine gate_callee (f := 16) rfl ?_); refine goesL_ (some 86) rfl rfl Tryd.func16 (by kernel_rfl) rfl #[.slice A0_8 l0_8.length c0_8] rfl (by (try simp only [List.map_toArray, List.map_cons, List.map_nil]); first | done | rfl | (simp only [List.length_drop, List.length_take]; rfl)) ?_; (with_reducible refine (corebankref19_Sums.calls k3 _ _ l0_8 t215 _ ?side1 ?side2 A42.out).mono ?_); (case side1 => repeat (first | exact (Kd.C_below HR0_8.out HB.out) | (with_reducible refine Kd.C_alloc ?_ _) | (with_reducible refine Kd.C_drewN ?_ _) | (with_reducible refine Kd.C_drew ?_))); (case side2 => exact HC0_8.out); rintro e w44 ⟨v216, rfl, ho0, hb⟩; refine ⟨_, rfl, ?_⟩; have n0_ := Aside0.mk (Kd.R_lower ho0 (below_size (by repeat (first | (with_reducible first | exact HB.out | apply below_alloc | apply pw_below_drewN | apply below_drew1 | refine below_set ?_ GE207.out) | exact HB.out)))); have n1_ := Aside0.mk (blk_below (g := gb207) (o := .cells #[.int .i64 a0_0, .int .i64 a0_1, .int .i64 a0_2, .int .i64 a0_3, .int .i64 a0_4, .int .i64 a0_5, .string a0_6, .string a0_7, .slice A0_8 l0_8.length c0_8, .int .u64 a0_9] 25 (0, 0)) (by (with_reducible repeat (first | refine blk_drewN ?_ _ | refine blk_drew ?_ | refine blk_alloc ?_ _)); exact BK207.out) hb); have n2_ := Aside0.mk (below_step (by repeat (first | (with_reducible first | exact HB.out | apply below_alloc | apply pw_below_drewN | apply below_drew1 | refine below_set ?_ GE207.out) | exact HB.out)) hb); clear BK207; clear HB; have HO217 := n0_; have BK207 := n1_; have HB := n2_; clear n0_ n1_ n2_; (try clear hb); (try clear hb2); (try clear hk); (try clear hi); (try clear ho0)))
           go_loopg [6] k3 (fun kq v6 w' => ∃ (x6_4 : Int), v6 = .int .i64 x6_4 ∧ Aside0 (corebankref19_Check.l1 kq t215 x6_4 = some r) ∧ Aside0 (kq ≤ k3) ∧ Aside0 (Kd.R k44 44 w' w.heap.size (fun _ => True) v216 t215) ∧ Aside0 (w'.heap[gb207]? = some (.cells #[.int .i64 a0_0, .int .i64 a0_1, .int .i64 a0_2, .int .i64 a0_3, .int .i64 a0_4, .int .i64 a0_5, .string a0_6, .string a0_7, (.slice A0_8 l0_8.length c0_8), .int .u64 a0_9] 25 (0, 0))) ∧ Aside0 (Below w.heap.size w w'))
           case atStart => exact ⟨(0), (by first | rfl | (simp; done) | (simp [*]; done)), H', ⟨Nat.le_refl _⟩, ⟨by (with_reducible repeat (first | apply Kd.R_alloc | apply Kd.R_drewN | apply Kd.R_drew)); exact HO217.out⟩, ⟨by (with_reducible repeat (first | refine blk_drewN ?_ _ | refine blk_drew ?_ | refine blk_alloc ?_ _)); exact BK207.out⟩, ⟨by repeat (first | (with_reducible first | exact HB.out | apply below_alloc | apply pw_below_drewN | apply below_drew1 | refine below_set ?_ GE207.out) | exact HB.out)⟩⟩
           case round =>
            clear H'
            obtain ⟨x6_4, rfl, HA, HK4, HO_5, BK207, HB⟩ := hrel
            cases gk with
            | zero => exact absurd HA.out (by simp [corebankref19_Check.l1])
            | succ k4 =>
             have H := HA.out
             clear HA
             simp only [corebankref19_Check.l1] at H
             by_cases c45 : x6_4 < (t215.length : Int)
             ·rw [if_pos c45] at H
              have c45b0 : decide (x6_4 < (t215.length : Int)) = true := decide_eq_true c45
              clear c45
              by_cases c46 : 0 ≤ x6_4
              ·rw [if_pos c46] at H
               have c46b0 : decide (0 ≤ x6_4) = true := decide_eq_true c46
               clear c46
               by_cases c47 : ((rd_T44 t215 x6_4).f1) = 0
               ·rw [if_pos c47] at H
                have c47b0 : (((rd_T44 t215 x6_4).f1) == 0) = true := beq_iff_eq.mpr c47
                have c47b1 : (((rd_T44 t215 x6_4).f1) != 0) = false := bne_eq_false_iff_eq.mpr c47
                clear c47
                have H' := Aside0.mk H
                clear H
                obtain ⟨Ao48, co48, eo48⟩ := Kd.R_slice HO_5.out
                subst eo48
                have p218 : 0 ≤ (x6_4 : Int) := of_decide_eq_true (by first | (with_reducible assumption) | assumption)
                have q218 : x6_4 < (t215.length : Int) := of_decide_eq_true (by first | (with_reducible assumption) | assumption)
                obtain ⟨ad218, e218, hx218_0, hx218_1⟩ := at_T44 (Kd.R_reads' HO_5.out).2.2 x6_4 p218 q218
                cases e218
                replace p218 := eq_true p218
                replace q218 := eq_true q218
                go_wp2
                go_roundg k4
                case measure => have := HJ3.out; have := HJ28.out; have := HK3.out; have := HK4.out; omega
                case rel => exact ⟨(wrap64 (x6_4 + 1)), (by first | rfl | (simp; done) | (simp [*]; done)), H', ⟨by have := HJ3.out; have := HJ28.out; have := HK3.out; have := HK4.out; omega⟩, ⟨by (with_reducible repeat (first | apply Kd.R_alloc | apply Kd.R_drewN | apply Kd.R_drew)); exact HO_5.out⟩, ⟨by (with_reducible repeat (first | refine blk_drewN ?_ _ | refine blk_drew ?_ | refine blk_alloc ?_ _)); exact BK207.out⟩, ⟨by repeat (first | (with_reducible first | exact HB.out | apply below_alloc | apply pw_below_drewN | apply below_drew1 | refine below_set ?_ GE207.out) | exact HB.out)⟩⟩
               ·rw [if_neg c47] at H
                have c47b0 : (((rd_T44 t215 x6_4).f1) == 0) = false := beq_eq_false_iff_ne.mpr c47
                have c47b1 : (((rd_T44 t215 x6_4).f1) != 0) = true := bne_iff_ne.mpr c47
                obtain rfl := Option.some.inj H
                obtain ⟨Ao49, co49, eo49⟩ := Kd.R_slice HO_5.out
                subst eo49
                have p218 : 0 ≤ (x6_4 : Int) := of_decide_eq_true (by first | (with_reducible assumption) | assumption)
                have q218 : x6_4 < (t215.length : Int) := of_decide_eq_true (by first | (with_reducible assumption) | assumption)
                obtain ⟨ad218, e218, hx218_0, hx218_1⟩ := at_T44 (Kd.R_reads' HO_5.out).2.2 x6_4 p218 q218
                cases e218
                replace p218 := eq_true p218
                replace q218 := eq_true q218
                go_wp2
                go_ret
                exact ⟨by first | rfl | (simp [errW_none, errW_some] <;> rfl) | (simp [*, errW_none, errW_some] <;> rfl), by repeat (first | (with_reducible first | exact HB.out | apply below_alloc | apply pw_below_drewN | apply below_drew1 | refine below_set ?_ GE207.out) | exact HB.out)⟩
              ·rw [if_neg c46] at H
               exact absurd H (by simp)
             ·rw [if_neg c45] at H
              have c45b0 : decide (x6_4 < (t215.length : Int)) = false := decide_eq_false c45
              clear c45
              obtain rfl := Option.some.inj H
              obtain ⟨Ao50, co50, eo50⟩ := Kd.R_slice HO_5.out
              subst eo50
              go_wp2
              go_ret
              exact ⟨by first | rfl | (simp [errW_none, errW_some] <;> rfl) | (simp [*, errW_none, errW_some] <;> rfl), by repeat (first | (with_reducible first | exact HB.out | apply below_alloc | apply pw_below_drewN | apply below_drew1 | refine below_set ?_ GE207.out) | exact HB.out)⟩
 ·replace c3 := Bool.eq_false_iff.mpr c3
  subst c3
  have H1 : (some 4) = some r := by rw [if_neg (show ¬ (false = true) by decide)] at H; exact H
  clear H
  have H := H1
  clear H1
  obtain rfl := Option.some.inj H
  go_enter Tryd.func13, Tryd.ntmps13
  go_wp2_with (first | ((with_reducible refine gate_dst (N := 1) rfl ?_); (try (refine gate_guard (by rfl) ?_; dsimp only)); refine box_event ?hg (N := 1) ?hd (cs := #[.int .i64 a0_0, .int .i64 a0_1, .int .i64 a0_2, .int .i64 a0_3, .int .i64 a0_4, .int .i64 a0_5, .string a0_6, .string a0_7, .slice A0_8 l0_8.length c0_8, .int .u64 a0_9]) (t := 25) ?hr ?_; (case hd => rfl); (case hg => rfl); (case hr => first | (go_simp; done) | (go_simp; rfl)); intro gb207 hg w51 hbox hb; have n0_ := Aside0.mk (below_step (by repeat (first | (with_reducible first | exact HB.out | apply below_alloc | apply pw_below_drewN | apply below_drew1) | exact HB.out)) hb); have n1_ := Aside0.mk (hbox); have n2_ := Aside0.mk ((by rw [hg]; exact (below_size (by repeat (first | (with_reducible first | exact HB.out | apply below_alloc | apply pw_below_drewN | apply below_drew1) | exact HB.out))) : w.heap.size ≤ gb207)); have n3_ := Aside0.mk ((by rw [hg]; exact (below_size (by repeat (first | (with_reducible first | exact HB.out | apply below_alloc | apply pw_below_drewN | apply below_drew1) | exact HB.out))) : w.heap.size ≤ gb207)); clear HB; have HB := n0_; have BK207 := n1_; have GW207 := n2_; have GE207 := n3_; clear n0_ n1_ n2_ n3_; clear hb hbox hg; have hcz52_0 : w51.cell? ⟨gb207, 0, none⟩ = some (.int .i64 a0_0) := (blk_cell BK207.out 0).trans rfl; have hcz52_1 : w51.cell? ⟨gb207, 1, none⟩ = some (.int .i64 a0_1) := (blk_cell BK207.out 1).trans rfl; have hcz52_2 : w51.cell? ⟨gb207, 2, none⟩ = some (.int .i64 a0_2) := (blk_cell BK207.out 2).trans rfl; have hcz52_3 : w51.cell? ⟨gb207, 3, none⟩ = some (.int .i64 a0_3) := (blk_cell BK207.out 3).trans rfl; have hcz52_4 : w51.cell? ⟨gb207, 4, none⟩ = some (.int .i64 a0_4) := (blk_cell BK207.out 4).trans rfl; have hcz52_5 : w51.cell? ⟨gb207, 5, none⟩ = some (.int .i64 a0_5) := (blk_cell BK207.out 5).trans rfl; have hcz52_6 : w51.cell? ⟨gb207, 6, none⟩ = some (.string a0_6) := (blk_cell BK207.out 6).trans rfl; have hcz52_7 : w51.cell? ⟨gb207, 7, none⟩ = some (.string a0_7) := (blk_cell BK207.out 7).trans rfl; have hcz52_8 : w51.cell? ⟨gb207, 8, none⟩ = some (.slice A0_8 l0_8.length c0_8) := (blk_cell BK207.out 8).trans rfl; have hcz52_9 : w51.cell? ⟨gb207, 9, none⟩ = some (.int .u64 a0_9) := (blk_cell BK207.out 9).trans rfl; have hfz52_0 := blk_frozen BK207.out 0; have hfz52_1 := blk_frozen BK207.out 1; have hfz52_2 := blk_frozen BK207.out 2; have hfz52_3 := blk_frozen BK207.out 3; have hfz52_4 := blk_frozen BK207.out 4; have hfz52_5 := blk_frozen BK207.out 5; have hfz52_6 := blk_frozen BK207.out 6; have hfz52_7 := blk_frozen BK207.out 7; have hfz52_8 := blk_frozen BK207.out 8; have hfz52_9 := blk_frozen BK207.out 9) | ((with_reducible refine gate_callee (f := 33) rfl ?_); refine goesL_ (some 9) rfl rfl Tryd.func33 (by kernel_rfl) rfl #[.string a0_6] rfl (by (try simp only [List.map_toArray, List.map_cons, List.map_nil]); first | done | rfl | (simp only [List.length_drop, List.length_take]; rfl)) ?_; (with_reducible refine (corebankref07_Key.calls k a0_6 false _ A2.out).mono ?_); rintro e w' ⟨rfl, ⟨nd, rfl⟩⟩; refine ⟨_, rfl, ?_⟩))
  go_ret
  exact ⟨by first | rfl | (simp [errW_none, errW_some] <;> rfl) | (simp [*, errW_none, errW_some] <;> rfl), by repeat (first | (with_reducible first | exact HB.out | apply below_alloc | apply pw_below_drewN | apply below_drew1 | refine below_set ?_ GE207.out) | exact HB.out)⟩
end Go.Proofs.YtkfgnjdchnpjeaaDoor.QD
