/- QDx15: what the law MessageOnce asks of it. -/
import Derived.Test.YthmlibimhdeocaaDoorOnMsgLive
import Derived.Test.YthmlibimhdeocaaDoorOnQDx0
import Derived.Test.YthmlibimhdeocaaDoorOnQDx1
import Derived.Test.YthmlibimhdeocaaDoorOnQDx2
import Derived.Test.YthmlibimhdeocaaDoorOnQDx8
import Derived.Test.YthmlibimhdeocaaDoorOnQDx10
import Derived.Test.YthmlibimhdeocaaDoorOnQDx13
namespace Go.Proofs.YthmlibimhdeocaaDoor.QD
open Go.RowKit Go.Proofs.YthmlibimhdeocaaDoorW.PrintWords Go.Proofs.YthmlibimhdeocaaDoorW.PrintLast Go.Proofs.YthmlibimhdeocaaDoorW.PrintMore
attribute [local go_sem] max2_int min2_int max_two min_two max_three min_three max_four min_four   -- for this text's walks alone
set_option linter.unusedVariables false
set_option linter.unusedSimpArgs false

attribute [local go_sem high] eqA23
mutual
def corebanklaw43_MessageOnce.j0 : Nat → List (S23) → List (S23) → Bool → ByteArray → Int → Int → Int → Int → Int → ByteArray → Option (Bool)
  | 0, _, _, _, _, _, _, _, _, _, _ => none
  | k + 1, x0, x1, x26, x330000, x330001, x330002, x330003, x330004, x330005, x330006 => if x26 = true then (some true) else ((message_Receive.f x0 x330000 x330001 x330002 x330003 x330004 x330005 x330006).bind fun bt333 => (if bt333.2.2 = 0 then ((corebanklaw43_received.f k bt333.1 x1).bind fun t339 => ((message_Receive.f t339 x330000 x330001 x330002 x330003 x330004 x330005 x330006).bind fun bt342 => (if bt342.2.1 = true then (corebanklaw43_MessageOnce.j1 k t339 true x330000 x330001 x330002 x330003 x330004 x330005 x330006) else (if bt342.2.2 = 0 then ((corebankref43_SameAll.f k t339 bt342.1).bind fun t347 => (corebanklaw43_MessageOnce.j1 k t339 (!t347) x330000 x330001 x330002 x330003 x330004 x330005 x330006)) else (corebanklaw43_MessageOnce.j1 k t339 true x330000 x330001 x330002 x330003 x330004 x330005 x330006))))) else ((corebanklaw43_live.f).bind fun t338 => (some t338))))
def corebanklaw43_MessageOnce.j1 : Nat → List (S23) → Bool → ByteArray → Int → Int → Int → Int → Int → ByteArray → Option (Bool)
  | 0, _, _, _, _, _, _, _, _, _ => none
  | k + 1, x7, x57, x330000, x330001, x330002, x330003, x330004, x330005, x330006 => if x57 = true then (some false) else ((message_Receive.f x7 x330000 x330001 x330002 x330003 (wrap64 ((Int.tmod x330004 2) + 1)) (wrap64 (Int.tdiv x330005 2)) x330006).bind fun bt349 => (if ((wrap64 ((Int.tmod x330004 2) + 1)) == x330004 && ((wrap64 (Int.tdiv x330005 2)) == x330005)) = true then (if bt349.2.1 = true then (some false) else (if bt349.2.2 = 0 then ((corebankref43_SameAll.f k x7 bt349.1).bind fun t354 => (if t354 = true then ((corebanklaw43_live.f).bind fun t355 => (some t355)) else (some false))) else (some false))) else (if bt349.2.1 = true then (some false) else (if bt349.2.2 = 13 then (if (bt349.1.length : Int) = 0 then ((corebanklaw43_live.f).bind fun t356 => (some t356)) else (some false)) else (some false)))))
end
def corebanklaw43_MessageOnce.f (k : Nat) (l0 : List (S23)) (l1 : List (S23)) (a2_0 : ByteArray) (a2_1 : Int) (a2_2 : Int) (a2_3 : Int) (a2_4 : Int) (a2_5 : Int) (a2_6 : ByteArray) : Option (Bool) := (corebankref43_GreatAll.f k l0).bind fun t330 => (if t330 = true then (corebanklaw43_MessageOnce.j0 k l0 l1 true a2_0 a2_1 a2_2 a2_3 a2_4 a2_5 a2_6) else ((corebankref43_GreatAll.f k l1).bind fun t331 => (if t331 = true then (corebanklaw43_MessageOnce.j0 k l0 l1 true a2_0 a2_1 a2_2 a2_3 a2_4 a2_5 a2_6) else ((corebankref43_Great.f a2_0 a2_1 a2_2 a2_3 a2_4 a2_5 a2_6).bind fun t332 => (corebanklaw43_MessageOnce.j0 k l0 l1 t332 a2_0 a2_1 a2_2 a2_3 a2_4 a2_5 a2_6)))))
theorem corebanklaw43_MessageOnce.mono_l : ∀ k, (∀ y0 y1 y2 y3 y4 y5 y6 y7 y8 y9, LeO (corebanklaw43_MessageOnce.j0 k y0 y1 y2 y3 y4 y5 y6 y7 y8 y9) (corebanklaw43_MessageOnce.j0 (k + 1) y0 y1 y2 y3 y4 y5 y6 y7 y8 y9)) ∧ (∀ y0 y1 y2 y3 y4 y5 y6 y7 y8, LeO (corebanklaw43_MessageOnce.j1 k y0 y1 y2 y3 y4 y5 y6 y7 y8) (corebanklaw43_MessageOnce.j1 (k + 1) y0 y1 y2 y3 y4 y5 y6 y7 y8))
  | 0 => ⟨fun _ _ _ _ _ _ _ _ _ _ r h => by simp [corebanklaw43_MessageOnce.j0] at h, fun _ _ _ _ _ _ _ _ _ r h => by simp [corebanklaw43_MessageOnce.j1] at h⟩
  | k + 1 => by
    obtain ⟨ih0, ih1⟩ := corebanklaw43_MessageOnce.mono_l k
    refine ⟨?_, ?_⟩
    · intro y0 y1 y2 y3 y4 y5 y6 y7 y8 y9
      unfold corebanklaw43_MessageOnce.j0
      repeat' first
      | (with_reducible exact ih0 _ _ _ _ _ _ _ _ _ _)
      | (with_reducible exact ih1 _ _ _ _ _ _ _ _ _)
      | (with_reducible exact corebanklaw43_received.mono _ _ _)
      | (with_reducible exact corebankref43_GreatAll.mono _ _)
      | (with_reducible exact corebankref43_SameAll.mono _ _ _)
      | (with_reducible exact LeO.refl _)
      | (with_reducible exact LeO.none _)
      | (with_reducible refine LeO.ite ?_ ?_)
      | (with_reducible refine LeO.bind ?_ (fun _ => ?_))
      | exact ih0 _ _ _ _ _ _ _ _ _ _
      | exact ih1 _ _ _ _ _ _ _ _ _
      | exact corebanklaw43_received.mono _ _ _
      | exact corebankref43_GreatAll.mono _ _
      | exact corebankref43_SameAll.mono _ _ _
      | exact LeO.none _
      | refine LeO.ite ?_ ?_
      | refine LeO.bind ?_ (fun _ => ?_)
    · intro y0 y1 y2 y3 y4 y5 y6 y7 y8
      unfold corebanklaw43_MessageOnce.j1
      repeat' first
      | (with_reducible exact ih0 _ _ _ _ _ _ _ _ _ _)
      | (with_reducible exact ih1 _ _ _ _ _ _ _ _ _)
      | (with_reducible exact corebanklaw43_received.mono _ _ _)
      | (with_reducible exact corebankref43_GreatAll.mono _ _)
      | (with_reducible exact corebankref43_SameAll.mono _ _ _)
      | (with_reducible exact LeO.refl _)
      | (with_reducible exact LeO.none _)
      | (with_reducible refine LeO.ite ?_ ?_)
      | (with_reducible refine LeO.bind ?_ (fun _ => ?_))
      | exact ih0 _ _ _ _ _ _ _ _ _ _
      | exact ih1 _ _ _ _ _ _ _ _ _
      | exact corebanklaw43_received.mono _ _ _
      | exact corebankref43_GreatAll.mono _ _
      | exact corebankref43_SameAll.mono _ _ _
      | exact LeO.none _
      | refine LeO.ite ?_ ?_
      | refine LeO.bind ?_ (fun _ => ?_)
theorem corebanklaw43_MessageOnce.mono : ∀ a0 a1 a2 a3 a4 a5 a6 a7 a8 k, LeO (corebanklaw43_MessageOnce.f k a0 a1 a2 a3 a4 a5 a6 a7 a8) (corebanklaw43_MessageOnce.f (k + 1) a0 a1 a2 a3 a4 a5 a6 a7 a8) := by
  intro a0 a1 a2 a3 a4 a5 a6 a7 a8 k
  obtain ⟨ih0, ih1⟩ := corebanklaw43_MessageOnce.mono_l k
  unfold corebanklaw43_MessageOnce.f
  repeat' first
      | (with_reducible exact ih0 _ _ _ _ _ _ _ _ _ _)
      | (with_reducible exact ih1 _ _ _ _ _ _ _ _ _)
      | (with_reducible exact corebanklaw43_received.mono _ _ _)
      | (with_reducible exact corebankref43_GreatAll.mono _ _)
      | (with_reducible exact corebankref43_SameAll.mono _ _ _)
      | (with_reducible exact LeO.refl _)
      | (with_reducible exact LeO.none _)
      | (with_reducible refine LeO.ite ?_ ?_)
      | (with_reducible refine LeO.bind ?_ (fun _ => ?_))
      | exact ih0 _ _ _ _ _ _ _ _ _ _
      | exact ih1 _ _ _ _ _ _ _ _ _
      | exact corebanklaw43_received.mono _ _ _
      | exact corebankref43_GreatAll.mono _ _
      | exact corebankref43_SameAll.mono _ _ _
      | exact LeO.none _
      | refine LeO.ite ?_ ?_
      | refine LeO.bind ?_ (fun _ => ?_)
set_option maxHeartbeats 8000000 in
set_option maxRecDepth 100000 in
theorem corebanklaw43_MessageOnce.calls (k : Nat) (A0 : Option Addr) (c0 : Nat) (l0 : List (S23)) (A1 : Option Addr) (c1 : Nat) (l1 : List (S23)) (a2_0 : ByteArray) (a2_1 : Int) (a2_2 : Int) (a2_3 : Int) (a2_4 : Int) (a2_5 : Int) (a2_6 : ByteArray) (r : Bool) (w : World) (hr0 : Kd.C k23 w A0 l0.length l0) (hc0 : l0.length ≤ c0) (hr1 : Kd.C k23 w A1 l1.length l1) (hc1 : l1.length ≤ c1) (HTab_ : TabW w) (h : corebanklaw43_MessageOnce.f k l0 l1 a2_0 a2_1 a2_2 a2_3 a2_4 a2_5 a2_6 = some r) :
    Calls Tryd.prog 8 #[.slice A0 l0.length c0, .slice A1 l1.length c1, .agg #[.string a2_0, .int .i64 a2_1, .int .i64 a2_2, .int .i64 a2_3, .int .i64 a2_4, .int .i64 a2_5, .string a2_6]] w fun e w' => e = .returned (.bool r) ∧ Below w.heap.size w w' := by
  have hu23 := Tryd.underlying23
  have HR0 := Aside0.mk hr0
  have HC0 := Aside0.mk hc0
  clear hr0 hc0
  have HR1 := Aside0.mk hr1
  have HC1 := Aside0.mk hc1
  clear hr1 hc1
  have HTab := Aside0.mk HTab_
  clear HTab_
  have HB := Aside0.mk (Below.refl w.heap.size w)
  have H : ((corebankref43_GreatAll.f k l0).bind fun t330 => (if t330 = true then (corebanklaw43_MessageOnce.j0 k l0 l1 true a2_0 a2_1 a2_2 a2_3 a2_4 a2_5 a2_6) else ((corebankref43_GreatAll.f k l1).bind fun t331 => (if t331 = true then (corebanklaw43_MessageOnce.j0 k l0 l1 true a2_0 a2_1 a2_2 a2_3 a2_4 a2_5 a2_6) else ((corebankref43_Great.f a2_0 a2_1 a2_2 a2_3 a2_4 a2_5 a2_6).bind fun t332 => (corebanklaw43_MessageOnce.j0 k l0 l1 t332 a2_0 a2_1 a2_2 a2_3 a2_4 a2_5 a2_6)))))) = some r := h
  clear h
  have HC4 := Aside0.mk H
  clear H
  go_enter Tryd.func8, Tryd.ntmps8
  go_upto_region 1 with (first | ((with_reducible refine gate_dst (N := 5) rfl ?_); (try (refine gate_guard (by rfl) ?_; dsimp only)); refine box_event ?hg (N := 5) ?hd (cs := #[.string a2_0, .int .i64 a2_1, .int .i64 a2_2, .int .i64 a2_3, .int .i64 a2_4, .int .i64 a2_5, .string a2_6]) (t := 23) ?hr ?_; (case hd => rfl); (case hg => rfl); (case hr => first | (go_simp; done) | (go_simp; rfl)); intro gb329 hg w5 hbox hb; have n0_ := Aside0.mk (below_step (by repeat (first | (with_reducible first | exact HB.out | apply below_alloc | apply pw_below_drewN | apply below_drew1) | exact HB.out)) hb); have n1_ := Aside0.mk (hbox); have n2_ := Aside0.mk ((by rw [hg]; exact (below_size (by repeat (first | (with_reducible first | exact HB.out | apply below_alloc | apply pw_below_drewN | apply below_drew1) | exact HB.out))) : w.heap.size ≤ gb329)); have n3_ := Aside0.mk ((by rw [hg]; exact (below_size (by repeat (first | (with_reducible first | exact HB.out | apply below_alloc | apply pw_below_drewN | apply below_drew1) | exact HB.out))) : w.heap.size ≤ gb329)); clear HB; have HB := n0_; have BK329 := n1_; have GW329 := n2_; have GE329 := n3_; clear n0_ n1_ n2_ n3_; clear hb hbox hg))
  (try simp only [Act.put, List.setIfInBounds_toArray, List.set_cons_zero, List.set_cons_succ])
  go_cut [26] (fun v26 wc => ∃ (kq : Nat) (x26_3 : Bool), v26 = .bool x26_3 ∧ Aside0 (corebanklaw43_MessageOnce.j0 kq l0 l1 x26_3 a2_0 a2_1 a2_2 a2_3 a2_4 a2_5 a2_6 = some r) ∧ Aside0 (kq ≤ k) ∧ Aside0 (wc.heap[gb329]? = some (.cells #[.string a2_0, .int .i64 a2_1, .int .i64 a2_2, .int .i64 a2_3, .int .i64 a2_4, .int .i64 a2_5, .string a2_6] 23 (0, 0))) ∧ Aside0 (Below w.heap.size w wc))
  case first =>
    have H := HC4.out
    clear HC4
    replace H := Option.bind_eq_some_iff.mp H
    obtain ⟨t330, A60, H⟩ := H
    replace H : (if t330 = true then (corebanklaw43_MessageOnce.j0 k l0 l1 true a2_0 a2_1 a2_2 a2_3 a2_4 a2_5 a2_6) else ((corebankref43_GreatAll.f k l1).bind fun t331 => (if t331 = true then (corebanklaw43_MessageOnce.j0 k l0 l1 true a2_0 a2_1 a2_2 a2_3 a2_4 a2_5 a2_6) else ((corebankref43_Great.f a2_0 a2_1 a2_2 a2_3 a2_4 a2_5 a2_6).bind fun t332 => (corebanklaw43_MessageOnce.j0 k l0 l1 t332 a2_0 a2_1 a2_2 a2_3 a2_4 a2_5 a2_6))))) = some r := H
    have A6 := Aside0.mk A60
    clear A60
    by_cases c7 : t330 = true
    · subst c7
      have H1 : (corebanklaw43_MessageOnce.j0 k l0 l1 true a2_0 a2_1 a2_2 a2_3 a2_4 a2_5 a2_6) = some r := by rw [if_pos rfl] at H; exact H
      clear H
      have H := H1
      clear H1
      have H' := Aside0.mk H
      clear H
      go_wp2_with (first | ((with_reducible refine gate_callee (f := 17) rfl ?_); refine goesL_ (some 18) rfl rfl Tryd.func17 (by kernel_rfl) rfl #[.slice A0 l0.length c0] rfl (by (try simp only [List.map_toArray, List.map_cons, List.map_nil]); first | done | rfl | (simp only [List.length_drop, List.length_take]; rfl)) ?_; (with_reducible refine (corebankref43_GreatAll.calls k _ _ l0 true _ ?side1 ?side2 A6.out).mono ?_); (case side1 => repeat (first | exact (Kd.C_below HR0.out HB.out) | (with_reducible refine Kd.C_alloc ?_ _) | (with_reducible refine Kd.C_drewN ?_ _) | (with_reducible refine Kd.C_drew ?_))); (case side2 => exact HC0.out); rintro e w8 ⟨rfl, hb⟩; refine ⟨_, rfl, ?_⟩; have n0_ := Aside0.mk (blk_below (g := gb329) (o := .cells #[.string a2_0, .int .i64 a2_1, .int .i64 a2_2, .int .i64 a2_3, .int .i64 a2_4, .int .i64 a2_5, .string a2_6] 23 (0, 0)) (by (with_reducible repeat (first | refine blk_drewN ?_ _ | refine blk_drew ?_ | refine blk_alloc ?_ _)); exact BK329.out) hb); have n1_ := Aside0.mk (below_step (by repeat (first | (with_reducible first | exact HB.out | apply below_alloc | apply pw_below_drewN | apply below_drew1 | refine below_set ?_ GE329.out) | exact HB.out)) hb); clear BK329; clear HB; have BK329 := n0_; have HB := n1_; clear n0_ n1_; (try clear hb); (try clear hb2); (try clear hk); (try clear hi)))
      go_meet
      case rel => exact ⟨_, (true), (by first | rfl | (simp; done) | (simp [*]; done)), H', ⟨by first | omega | exact Nat.le_refl _⟩, ⟨by (with_reducible repeat (first | refine blk_drewN ?_ _ | refine blk_drew ?_ | refine blk_alloc ?_ _)); exact BK329.out⟩, ⟨by repeat (first | (with_reducible first | exact HB.out | apply below_alloc | apply pw_below_drewN | apply below_drew1 | refine below_set ?_ GE329.out) | exact HB.out)⟩⟩
    · replace c7 := Bool.eq_false_iff.mpr c7
      subst c7
      have H1 : ((corebankref43_GreatAll.f k l1).bind fun t331 => (if t331 = true then (corebanklaw43_MessageOnce.j0 k l0 l1 true a2_0 a2_1 a2_2 a2_3 a2_4 a2_5 a2_6) else ((corebankref43_Great.f a2_0 a2_1 a2_2 a2_3 a2_4 a2_5 a2_6).bind fun t332 => (corebanklaw43_MessageOnce.j0 k l0 l1 t332 a2_0 a2_1 a2_2 a2_3 a2_4 a2_5 a2_6)))) = some r := by rw [if_neg (show ¬ (false = true) by decide)] at H; exact H
      clear H
      have H := H1
      clear H1
      replace H := Option.bind_eq_some_iff.mp H
      obtain ⟨t331, A90, H⟩ := H
      replace H : (if t331 = true then (corebanklaw43_MessageOnce.j0 k l0 l1 true a2_0 a2_1 a2_2 a2_3 a2_4 a2_5 a2_6) else ((corebankref43_Great.f a2_0 a2_1 a2_2 a2_3 a2_4 a2_5 a2_6).bind fun t332 => (corebanklaw43_MessageOnce.j0 k l0 l1 t332 a2_0 a2_1 a2_2 a2_3 a2_4 a2_5 a2_6))) = some r := H
      have A9 := Aside0.mk A90
      clear A90
      by_cases c10 : t331 = true
      · subst c10
        have H1 : (corebanklaw43_MessageOnce.j0 k l0 l1 true a2_0 a2_1 a2_2 a2_3 a2_4 a2_5 a2_6) = some r := by rw [if_pos rfl] at H; exact H
        clear H
        have H := H1
        clear H1
        have H' := Aside0.mk H
        clear H
        go_wp2_with (first | ((with_reducible refine gate_callee (f := 17) rfl ?_); refine goesL_ (some 18) rfl rfl Tryd.func17 (by kernel_rfl) rfl #[.slice A0 l0.length c0] rfl (by (try simp only [List.map_toArray, List.map_cons, List.map_nil]); first | done | rfl | (simp only [List.length_drop, List.length_take]; rfl)) ?_; (with_reducible refine (corebankref43_GreatAll.calls k _ _ l0 false _ ?side1 ?side2 A6.out).mono ?_); (case side1 => repeat (first | exact (Kd.C_below HR0.out HB.out) | (with_reducible refine Kd.C_alloc ?_ _) | (with_reducible refine Kd.C_drewN ?_ _) | (with_reducible refine Kd.C_drew ?_))); (case side2 => exact HC0.out); rintro e w11 ⟨rfl, hb⟩; refine ⟨_, rfl, ?_⟩; have n0_ := Aside0.mk (blk_below (g := gb329) (o := .cells #[.string a2_0, .int .i64 a2_1, .int .i64 a2_2, .int .i64 a2_3, .int .i64 a2_4, .int .i64 a2_5, .string a2_6] 23 (0, 0)) (by (with_reducible repeat (first | refine blk_drewN ?_ _ | refine blk_drew ?_ | refine blk_alloc ?_ _)); exact BK329.out) hb); have n1_ := Aside0.mk (below_step (by repeat (first | (with_reducible first | exact HB.out | apply below_alloc | apply pw_below_drewN | apply below_drew1 | refine below_set ?_ GE329.out) | exact HB.out)) hb); clear BK329; clear HB; have BK329 := n0_; have HB := n1_; clear n0_ n1_; (try clear hb); (try clear hb2); (try clear hk); (try clear hi)) | (go_at_call 17; (with_reducible refine (corebankref43_GreatAll.calls k _ _ l1 true _ ?side1 ?side2 A9.out).mono ?_); (case side1 => repeat (first | exact (Kd.C_below HR1.out HB.out) | (with_reducible refine Kd.C_alloc ?_ _) | (with_reducible refine Kd.C_drewN ?_ _) | (with_reducible refine Kd.C_drew ?_))); (case side2 => exact HC1.out); rintro e w12 ⟨rfl, hb⟩; have n0_ := Aside0.mk (blk_below (g := gb329) (o := .cells #[.string a2_0, .int .i64 a2_1, .int .i64 a2_2, .int .i64 a2_3, .int .i64 a2_4, .int .i64 a2_5, .string a2_6] 23 (0, 0)) (by (with_reducible repeat (first | refine blk_drewN ?_ _ | refine blk_drew ?_ | refine blk_alloc ?_ _)); exact BK329.out) hb); have n1_ := Aside0.mk (below_step (by repeat (first | (with_reducible first | exact HB.out | apply below_alloc | apply pw_below_drewN | apply below_drew1 | refine below_set ?_ GE329.out) | exact HB.out)) hb); clear BK329; clear HB; have BK329 := n0_; have HB := n1_; clear n0_ n1_; (try clear hb); (try clear hb2); (try clear hk); (try clear hi)))
        go_meet
        case rel => exact ⟨_, (true), (by first | rfl | (simp; done) | (simp [*]; done)), H', ⟨by first | omega | exact Nat.le_refl _⟩, ⟨by (with_reducible repeat (first | refine blk_drewN ?_ _ | refine blk_drew ?_ | refine blk_alloc ?_ _)); exact BK329.out⟩, ⟨by repeat (first | (with_reducible first | exact HB.out | apply below_alloc | apply pw_below_drewN | apply below_drew1 | refine below_set ?_ GE329.out) | exact HB.out)⟩⟩
      · replace c10 := Bool.eq_false_iff.mpr c10
        subst c10
        have H1 : ((corebankref43_Great.f a2_0 a2_1 a2_2 a2_3 a2_4 a2_5 a2_6).bind fun t332 => (corebanklaw43_MessageOnce.j0 k l0 l1 t332 a2_0 a2_1 a2_2 a2_3 a2_4 a2_5 a2_6)) = some r := by rw [if_neg (show ¬ (false = true) by decide)] at H; exact H
        clear H
        have H := H1
        clear H1
        replace H := Option.bind_eq_some_iff.mp H
        obtain ⟨t332, A130, H⟩ := H
        replace H : (corebanklaw43_MessageOnce.j0 k l0 l1 t332 a2_0 a2_1 a2_2 a2_3 a2_4 a2_5 a2_6) = some r := H
        have A13 := Aside0.mk A130
        clear A130
        have H' := Aside0.mk H
        clear H
        go_wp2_with (first | ((with_reducible refine gate_callee (f := 17) rfl ?_); refine goesL_ (some 18) rfl rfl Tryd.func17 (by kernel_rfl) rfl #[.slice A0 l0.length c0] rfl (by (try simp only [List.map_toArray, List.map_cons, List.map_nil]); first | done | rfl | (simp only [List.length_drop, List.length_take]; rfl)) ?_; (with_reducible refine (corebankref43_GreatAll.calls k _ _ l0 false _ ?side1 ?side2 A6.out).mono ?_); (case side1 => repeat (first | exact (Kd.C_below HR0.out HB.out) | (with_reducible refine Kd.C_alloc ?_ _) | (with_reducible refine Kd.C_drewN ?_ _) | (with_reducible refine Kd.C_drew ?_))); (case side2 => exact HC0.out); rintro e w14 ⟨rfl, hb⟩; refine ⟨_, rfl, ?_⟩; have n0_ := Aside0.mk (blk_below (g := gb329) (o := .cells #[.string a2_0, .int .i64 a2_1, .int .i64 a2_2, .int .i64 a2_3, .int .i64 a2_4, .int .i64 a2_5, .string a2_6] 23 (0, 0)) (by (with_reducible repeat (first | refine blk_drewN ?_ _ | refine blk_drew ?_ | refine blk_alloc ?_ _)); exact BK329.out) hb); have n1_ := Aside0.mk (below_step (by repeat (first | (with_reducible first | exact HB.out | apply below_alloc | apply pw_below_drewN | apply below_drew1 | refine below_set ?_ GE329.out) | exact HB.out)) hb); clear BK329; clear HB; have BK329 := n0_; have HB := n1_; clear n0_ n1_; (try clear hb); (try clear hb2); (try clear hk); (try clear hi)) | (go_at_call 17; (with_reducible refine (corebankref43_GreatAll.calls k _ _ l1 false _ ?side1 ?side2 A9.out).mono ?_); (case side1 => repeat (first | exact (Kd.C_below HR1.out HB.out) | (with_reducible refine Kd.C_alloc ?_ _) | (with_reducible refine Kd.C_drewN ?_ _) | (with_reducible refine Kd.C_drew ?_))); (case side2 => exact HC1.out); rintro e w15 ⟨rfl, hb⟩; have n0_ := Aside0.mk (blk_below (g := gb329) (o := .cells #[.string a2_0, .int .i64 a2_1, .int .i64 a2_2, .int .i64 a2_3, .int .i64 a2_4, .int .i64 a2_5, .string a2_6] 23 (0, 0)) (by (with_reducible repeat (first | refine blk_drewN ?_ _ | refine blk_drew ?_ | refine blk_alloc ?_ _)); exact BK329.out) hb); have n1_ := Aside0.mk (below_step (by repeat (first | (with_reducible first | exact HB.out | apply below_alloc | apply pw_below_drewN | apply below_drew1 | refine below_set ?_ GE329.out) | exact HB.out)) hb); clear BK329; clear HB; have BK329 := n0_; have HB := n1_; clear n0_ n1_; (try clear hb); (try clear hb2); (try clear hk); (try clear hi); have hcz16_0 : w15.cell? ⟨gb329, 0, none⟩ = some (.string a2_0) := (blk_cell BK329.out 0).trans rfl; have hcz16_1 : w15.cell? ⟨gb329, 1, none⟩ = some (.int .i64 a2_1) := (blk_cell BK329.out 1).trans rfl; have hcz16_2 : w15.cell? ⟨gb329, 2, none⟩ = some (.int .i64 a2_2) := (blk_cell BK329.out 2).trans rfl; have hcz16_3 : w15.cell? ⟨gb329, 3, none⟩ = some (.int .i64 a2_3) := (blk_cell BK329.out 3).trans rfl; have hcz16_4 : w15.cell? ⟨gb329, 4, none⟩ = some (.int .i64 a2_4) := (blk_cell BK329.out 4).trans rfl; have hcz16_5 : w15.cell? ⟨gb329, 5, none⟩ = some (.int .i64 a2_5) := (blk_cell BK329.out 5).trans rfl; have hcz16_6 : w15.cell? ⟨gb329, 6, none⟩ = some (.string a2_6) := (blk_cell BK329.out 6).trans rfl; have hfz16_0 := blk_frozen BK329.out 0; have hfz16_1 := blk_frozen BK329.out 1; have hfz16_2 := blk_frozen BK329.out 2; have hfz16_3 := blk_frozen BK329.out 3; have hfz16_4 := blk_frozen BK329.out 4; have hfz16_5 := blk_frozen BK329.out 5; have hfz16_6 := blk_frozen BK329.out 6) | (go_at_call 9; (with_reducible refine (corebankref43_Great.calls a2_0 a2_1 a2_2 a2_3 a2_4 a2_5 a2_6 t332 _ A13.out).mono ?_); rintro e w17 ⟨rfl, hb⟩; have n0_ := Aside0.mk (blk_below (g := gb329) (o := .cells #[.string a2_0, .int .i64 a2_1, .int .i64 a2_2, .int .i64 a2_3, .int .i64 a2_4, .int .i64 a2_5, .string a2_6] 23 (0, 0)) (by (with_reducible repeat (first | refine blk_drewN ?_ _ | refine blk_drew ?_ | refine blk_alloc ?_ _)); exact BK329.out) hb); have n1_ := Aside0.mk (below_step (by repeat (first | (with_reducible first | exact HB.out | apply below_alloc | apply pw_below_drewN | apply below_drew1 | refine below_set ?_ GE329.out) | exact HB.out)) hb); clear BK329; clear HB; have BK329 := n0_; have HB := n1_; clear n0_ n1_; (try clear hb); (try clear hb2); (try clear hk); (try clear hi)))
        go_meet
        case rel => exact ⟨_, (t332), (by first | rfl | (simp; done) | (simp [*]; done)), H', ⟨by first | omega | exact Nat.le_refl _⟩, ⟨by (with_reducible repeat (first | refine blk_drewN ?_ _ | refine blk_drew ?_ | refine blk_alloc ?_ _)); exact BK329.out⟩, ⟨by repeat (first | (with_reducible first | exact HB.out | apply below_alloc | apply pw_below_drewN | apply below_drew1 | refine below_set ?_ GE329.out) | exact HB.out)⟩⟩
  case rest =>
    clear HC4
    try clear c1
    try clear p2
    try clear c7
    try clear c8
    try clear c10
    try clear c17
    try clear hcz16_0
    try clear hcz16_1
    try clear hcz16_2
    try clear hcz16_3
    try clear hcz16_4
    try clear hcz16_5
    try clear hcz16_6
    try clear hfz16_0
    try clear hfz16_1
    try clear hfz16_2
    try clear hfz16_3
    try clear hfz16_4
    try clear hfz16_5
    try clear hfz16_6
    obtain ⟨kq, x26_3, rfl, HA, HJ3, BK329, HB⟩ := hcut
    cases kq with
    | zero => exact absurd HA.out (by simp [corebanklaw43_MessageOnce.j0])
    | succ kj3 =>
      have H := HA.out
      clear HA
      simp only [corebanklaw43_MessageOnce.j0] at H
      by_cases c18 : x26_3 = true
      · subst c18
        have H1 : (some true) = some r := by rw [if_pos rfl] at H; exact H
        clear H
        have H := H1
        clear H1
        obtain rfl := Option.some.inj H
        go_wp2
        go_ret
        exact ⟨by first | rfl | (simp [errW_none, errW_some] <;> rfl) | (simp [*, errW_none, errW_some] <;> rfl), by repeat (first | (with_reducible first | exact HB.out | apply below_alloc | apply pw_below_drewN | apply below_drew1 | refine below_set ?_ GE329.out) | exact HB.out)⟩
      · replace c18 := Bool.eq_false_iff.mpr c18
        subst c18
        have H1 : ((message_Receive.f l0 a2_0 a2_1 a2_2 a2_3 a2_4 a2_5 a2_6).bind fun bt333 => (if bt333.2.2 = 0 then ((corebanklaw43_received.f kj3 bt333.1 l1).bind fun t339 => ((message_Receive.f t339 a2_0 a2_1 a2_2 a2_3 a2_4 a2_5 a2_6).bind fun bt342 => (if bt342.2.1 = true then (corebanklaw43_MessageOnce.j1 kj3 t339 true a2_0 a2_1 a2_2 a2_3 a2_4 a2_5 a2_6) else (if bt342.2.2 = 0 then ((corebankref43_SameAll.f kj3 t339 bt342.1).bind fun t347 => (corebanklaw43_MessageOnce.j1 kj3 t339 (!t347) a2_0 a2_1 a2_2 a2_3 a2_4 a2_5 a2_6)) else (corebanklaw43_MessageOnce.j1 kj3 t339 true a2_0 a2_1 a2_2 a2_3 a2_4 a2_5 a2_6))))) else ((corebanklaw43_live.f).bind fun t338 => (some t338)))) = some r := by rw [if_neg (show ¬ (false = true) by decide)] at H; exact H
        clear H
        have H := H1
        clear H1
        replace H := Option.bind_eq_some_iff.mp H
        obtain ⟨⟨t333, t336, t337⟩, A190, H⟩ := H
        replace H : (if t337 = 0 then ((corebanklaw43_received.f kj3 t333 l1).bind fun t339 => ((message_Receive.f t339 a2_0 a2_1 a2_2 a2_3 a2_4 a2_5 a2_6).bind fun bt342 => (if bt342.2.1 = true then (corebanklaw43_MessageOnce.j1 kj3 t339 true a2_0 a2_1 a2_2 a2_3 a2_4 a2_5 a2_6) else (if bt342.2.2 = 0 then ((corebankref43_SameAll.f kj3 t339 bt342.1).bind fun t347 => (corebanklaw43_MessageOnce.j1 kj3 t339 (!t347) a2_0 a2_1 a2_2 a2_3 a2_4 a2_5 a2_6)) else (corebanklaw43_MessageOnce.j1 kj3 t339 true a2_0 a2_1 a2_2 a2_3 a2_4 a2_5 a2_6))))) else ((corebanklaw43_live.f).bind fun t338 => (some t338))) = some r := H
        have A19 := Aside0.mk A190
        clear A190
        by_cases c20 : t337 = 0
        · rw [if_pos c20] at H
          have c20b0 : (t337 == 0) = true := beq_iff_eq.mpr c20
          have c20b1 : (t337 != 0) = false := bne_eq_false_iff_eq.mpr c20
          clear c20
          replace H := Option.bind_eq_some_iff.mp H
          obtain ⟨t339, A210, H⟩ := H
          replace H : ((message_Receive.f t339 a2_0 a2_1 a2_2 a2_3 a2_4 a2_5 a2_6).bind fun bt342 => (if bt342.2.1 = true then (corebanklaw43_MessageOnce.j1 kj3 t339 true a2_0 a2_1 a2_2 a2_3 a2_4 a2_5 a2_6) else (if bt342.2.2 = 0 then ((corebankref43_SameAll.f kj3 t339 bt342.1).bind fun t347 => (corebanklaw43_MessageOnce.j1 kj3 t339 (!t347) a2_0 a2_1 a2_2 a2_3 a2_4 a2_5 a2_6)) else (corebanklaw43_MessageOnce.j1 kj3 t339 true a2_0 a2_1 a2_2 a2_3 a2_4 a2_5 a2_6)))) = some r := H
          have A21 := Aside0.mk A210
          clear A210
          replace H := Option.bind_eq_some_iff.mp H
          obtain ⟨⟨t342, t345, t346⟩, A220, H⟩ := H
          replace H : (if t345 = true then (corebanklaw43_MessageOnce.j1 kj3 t339 true a2_0 a2_1 a2_2 a2_3 a2_4 a2_5 a2_6) else (if t346 = 0 then ((corebankref43_SameAll.f kj3 t339 t342).bind fun t347 => (corebanklaw43_MessageOnce.j1 kj3 t339 (!t347) a2_0 a2_1 a2_2 a2_3 a2_4 a2_5 a2_6)) else (corebanklaw43_MessageOnce.j1 kj3 t339 true a2_0 a2_1 a2_2 a2_3 a2_4 a2_5 a2_6))) = some r := H
          have A22 := Aside0.mk A220
          clear A220
          have HC23 := Aside0.mk H
          clear H
          have hcz24_0 : wc.cell? ⟨gb329, 0, none⟩ = some (.string a2_0) := (blk_cell BK329.out 0).trans rfl
          have hcz24_1 : wc.cell? ⟨gb329, 1, none⟩ = some (.int .i64 a2_1) := (blk_cell BK329.out 1).trans rfl
          have hcz24_2 : wc.cell? ⟨gb329, 2, none⟩ = some (.int .i64 a2_2) := (blk_cell BK329.out 2).trans rfl
          have hcz24_3 : wc.cell? ⟨gb329, 3, none⟩ = some (.int .i64 a2_3) := (blk_cell BK329.out 3).trans rfl
          have hcz24_4 : wc.cell? ⟨gb329, 4, none⟩ = some (.int .i64 a2_4) := (blk_cell BK329.out 4).trans rfl
          have hcz24_5 : wc.cell? ⟨gb329, 5, none⟩ = some (.int .i64 a2_5) := (blk_cell BK329.out 5).trans rfl
          have hcz24_6 : wc.cell? ⟨gb329, 6, none⟩ = some (.string a2_6) := (blk_cell BK329.out 6).trans rfl
          have hfz24_0 := blk_frozen BK329.out 0
          have hfz24_1 := blk_frozen BK329.out 1
          have hfz24_2 := blk_frozen BK329.out 2
          have hfz24_3 := blk_frozen BK329.out 3
          have hfz24_4 := blk_frozen BK329.out 4
          have hfz24_5 := blk_frozen BK329.out 5
          have hfz24_6 := blk_frozen BK329.out 6
          go_upto_region 8 with (first | ((with_reducible refine gate_callee (f := 18) rfl ?_); refine goesL_ (some 30) rfl rfl Tryd.func18 (by kernel_rfl) rfl #[.slice A0 l0.length c0, .agg #[.string a2_0, .int .i64 a2_1, .int .i64 a2_2, .int .i64 a2_3, .int .i64 a2_4, .int .i64 a2_5, .string a2_6]] rfl (by (try simp only [List.map_toArray, List.map_cons, List.map_nil]); first | done | rfl | (simp only [List.length_drop, List.length_take]; rfl)) ?_; (with_reducible refine (message_Receive.calls _ _ l0 a2_0 a2_1 a2_2 a2_3 a2_4 a2_5 a2_6 t333 t336 t337 _ ?side1 ?side2 A19.out).mono ?_); (case side1 => repeat (first | exact (Kd.C_below HR0.out HB.out) | (with_reducible refine Kd.C_alloc ?_ _) | (with_reducible refine Kd.C_drewN ?_ _) | (with_reducible refine Kd.C_drew ?_))); (case side2 => exact HC0.out); rintro e w25 ⟨v334, rfl, ho0, hb⟩; refine ⟨_, rfl, ?_⟩; have n0_ := Aside0.mk (Kd.R_lower (Kd.R_newB ho0 (g := gb329) (o := .cells #[.string a2_0, .int .i64 a2_1, .int .i64 a2_2, .int .i64 a2_3, .int .i64 a2_4, .int .i64 a2_5, .string a2_6] 23 (0, 0)) (by (with_reducible repeat (first | refine blk_drewN ?_ _ | refine blk_drew ?_ | refine blk_alloc ?_ _)); exact BK329.out)) (below_size (by repeat (first | (with_reducible first | exact HB.out | apply below_alloc | apply pw_below_drewN | apply below_drew1 | refine below_set ?_ GE329.out) | exact HB.out)))); have n1_ := Aside0.mk (blk_below (g := gb329) (o := .cells #[.string a2_0, .int .i64 a2_1, .int .i64 a2_2, .int .i64 a2_3, .int .i64 a2_4, .int .i64 a2_5, .string a2_6] 23 (0, 0)) (by (with_reducible repeat (first | refine blk_drewN ?_ _ | refine blk_drew ?_ | refine blk_alloc ?_ _)); exact BK329.out) hb); have n2_ := Aside0.mk (below_step (by repeat (first | (with_reducible first | exact HB.out | apply below_alloc | apply pw_below_drewN | apply below_drew1 | refine below_set ?_ GE329.out) | exact HB.out)) hb); clear BK329; clear HB; have HO335 := n0_; have BK329 := n1_; have HB := n2_; clear n0_ n1_ n2_; (try clear hb); (try clear hb2); (try clear hk); (try clear hi); (try clear ho0); obtain ⟨Ao26, co26, eo26⟩ := Kd.R_slice HO335.out; subst eo26) | ((with_reducible refine gate_callee (f := 24) rfl ?_); refine goesL_ (some 39) rfl rfl Tryd.func24 (by kernel_rfl) rfl #[.slice Ao26 t333.length co26, .slice A1 l1.length c1] rfl (by (try simp only [List.map_toArray, List.map_cons, List.map_nil]); first | done | rfl | (simp only [List.length_drop, List.length_take]; rfl)) ?_; (with_reducible refine (corebanklaw43_received.calls kj3 (fun k_ => some k_ = (.slice Ao26 t333.length co26 : Value).ownBlock) _ _ t333 _ _ l1 t339 _ ?side1 ?side2 ?side3 A21.out).mono ?_); (case side1 => exact Kd.R_V (Kd.R_tight rfl (HO335.out))); (case side2 => repeat (first | exact (Kd.C_below HR1.out HB.out) | (with_reducible refine Kd.C_alloc ?_ _) | (with_reducible refine Kd.C_drewN ?_ _) | (with_reducible refine Kd.C_drew ?_))); (case side3 => exact HC1.out); rintro e w27 ⟨v340, rfl, ho0, hb⟩; refine ⟨_, rfl, ?_⟩; have n0_ := Aside0.mk (Kd.R_below (by (with_reducible repeat (first | apply Kd.R_alloc | apply Kd.R_drewN | apply Kd.R_drew)); exact HO335.out) hb); have n1_ := Aside0.mk (Kd.V_lower (Kd.V_mono (ok' := fun k_ => k_ ≠ gb329) ho0 (fun k_ hk_ => Or.elim hk_ (fun hs_ => ((HO335.out).1 k_ hs_.symm).2) (fun hn_ => (Kd.freshB (g := gb329) (o := .cells #[.string a2_0, .int .i64 a2_1, .int .i64 a2_2, .int .i64 a2_3, .int .i64 a2_4, .int .i64 a2_5, .string a2_6] 23 (0, 0)) (by (with_reducible repeat (first | refine blk_drewN ?_ _ | refine blk_drew ?_ | refine blk_alloc ?_ _)); exact BK329.out) k_ hn_)))) (below_size (by repeat (first | (with_reducible first | exact HB.out | apply below_alloc | apply pw_below_drewN | apply below_drew1 | refine below_set ?_ GE329.out) | exact HB.out)))); have n2_ := Aside0.mk (blk_below (g := gb329) (o := .cells #[.string a2_0, .int .i64 a2_1, .int .i64 a2_2, .int .i64 a2_3, .int .i64 a2_4, .int .i64 a2_5, .string a2_6] 23 (0, 0)) (by (with_reducible repeat (first | refine blk_drewN ?_ _ | refine blk_drew ?_ | refine blk_alloc ?_ _)); exact BK329.out) hb); have n3_ := Aside0.mk (below_step (by repeat (first | (with_reducible first | exact HB.out | apply below_alloc | apply pw_below_drewN | apply below_drew1 | refine below_set ?_ GE329.out) | exact HB.out)) hb); clear HO335; clear BK329; clear HB; have HO335 := n0_; have HO341 := n1_; have BK329 := n2_; have HB := n3_; clear n0_ n1_ n2_ n3_; (try clear hb); (try clear hb2); (try clear hk); (try clear hi); (try clear ho0); have hcz28_0 : w27.cell? ⟨gb329, 0, none⟩ = some (.string a2_0) := (blk_cell BK329.out 0).trans rfl; have hcz28_1 : w27.cell? ⟨gb329, 1, none⟩ = some (.int .i64 a2_1) := (blk_cell BK329.out 1).trans rfl; have hcz28_2 : w27.cell? ⟨gb329, 2, none⟩ = some (.int .i64 a2_2) := (blk_cell BK329.out 2).trans rfl; have hcz28_3 : w27.cell? ⟨gb329, 3, none⟩ = some (.int .i64 a2_3) := (blk_cell BK329.out 3).trans rfl; have hcz28_4 : w27.cell? ⟨gb329, 4, none⟩ = some (.int .i64 a2_4) := (blk_cell BK329.out 4).trans rfl; have hcz28_5 : w27.cell? ⟨gb329, 5, none⟩ = some (.int .i64 a2_5) := (blk_cell BK329.out 5).trans rfl; have hcz28_6 : w27.cell? ⟨gb329, 6, none⟩ = some (.string a2_6) := (blk_cell BK329.out 6).trans rfl; have hfz28_0 := blk_frozen BK329.out 0; have hfz28_1 := blk_frozen BK329.out 1; have hfz28_2 := blk_frozen BK329.out 2; have hfz28_3 := blk_frozen BK329.out 3; have hfz28_4 := blk_frozen BK329.out 4; have hfz28_5 := blk_frozen BK329.out 5; have hfz28_6 := blk_frozen BK329.out 6; obtain ⟨Ao29, co29, eo29⟩ := Kd.V_slice HO341.out; subst eo29) | ((with_reducible refine gate_callee (f := 18) rfl ?_); refine goesL_ (some 43) rfl rfl Tryd.func18 (by kernel_rfl) rfl #[.slice Ao29 t339.length co29, .agg #[.string a2_0, .int .i64 a2_1, .int .i64 a2_2, .int .i64 a2_3, .int .i64 a2_4, .int .i64 a2_5, .string a2_6]] rfl (by (try simp only [List.map_toArray, List.map_cons, List.map_nil]); first | done | rfl | (simp only [List.length_drop, List.length_take]; rfl)) ?_; (with_reducible refine (message_Receive.calls _ _ t339 a2_0 a2_1 a2_2 a2_3 a2_4 a2_5 a2_6 t342 t345 t346 _ ?side1 ?side2 A22.out).mono ?_); (case side1 => repeat (first | exact (Kd.V_reads' HO341.out).2.2 | (with_reducible refine Kd.C_alloc ?_ _) | (with_reducible refine Kd.C_drewN ?_ _) | (with_reducible refine Kd.C_drew ?_))); (case side2 => exact (Kd.V_reads' HO341.out).2.1); rintro e w30 ⟨v343, rfl, ho0, hb⟩; refine ⟨_, rfl, ?_⟩; have n0_ := Aside0.mk (Kd.R_elder' (by (with_reducible repeat (first | apply Kd.R_alloc | apply Kd.R_drewN | apply Kd.R_drew)); exact HO335.out) (Kd.R_base ho0) hb); have n1_ := Aside0.mk (Kd.V_elder' (by (with_reducible repeat (first | apply Kd.V_alloc | apply Kd.V_drewN | apply Kd.V_drew)); exact HO341.out) (Kd.R_base ho0) hb); have n2_ := Aside0.mk (Kd.R_lower (Kd.R_newB (Kd.R_new' ho0 (Kd.R_lt (by (with_reducible repeat (first | apply Kd.R_alloc | apply Kd.R_drewN | apply Kd.R_drew)); exact HO335.out))) (g := gb329) (o := .cells #[.string a2_0, .int .i64 a2_1, .int .i64 a2_2, .int .i64 a2_3, .int .i64 a2_4, .int .i64 a2_5, .string a2_6] 23 (0, 0)) (by (with_reducible repeat (first | refine blk_drewN ?_ _ | refine blk_drew ?_ | refine blk_alloc ?_ _)); exact BK329.out)) (below_size (by repeat (first | (with_reducible first | exact HB.out | apply below_alloc | apply pw_below_drewN | apply below_drew1 | refine below_set ?_ GE329.out) | exact HB.out)))); have n3_ := Aside0.mk (blk_below (g := gb329) (o := .cells #[.string a2_0, .int .i64 a2_1, .int .i64 a2_2, .int .i64 a2_3, .int .i64 a2_4, .int .i64 a2_5, .string a2_6] 23 (0, 0)) (by (with_reducible repeat (first | refine blk_drewN ?_ _ | refine blk_drew ?_ | refine blk_alloc ?_ _)); exact BK329.out) hb); have n4_ := Aside0.mk (below_step (by repeat (first | (with_reducible first | exact HB.out | apply below_alloc | apply pw_below_drewN | apply below_drew1 | refine below_set ?_ GE329.out) | exact HB.out)) hb); clear HO335; clear HO341; clear BK329; clear HB; have HO335 := n0_; have HO341 := n1_; have HO344 := n2_; have BK329 := n3_; have HB := n4_; clear n0_ n1_ n2_ n3_ n4_; (try clear hb); (try clear hb2); (try clear hk); (try clear hi); (try clear ho0)))
          (try simp only [Act.put, List.setIfInBounds_toArray, List.set_cons_zero, List.set_cons_succ])
          go_cut [57] (fun v57 wc => ∃ (kq : Nat) (x57_22 : Bool), v57 = .bool x57_22 ∧ Aside0 (corebanklaw43_MessageOnce.j1 kq t339 x57_22 a2_0 a2_1 a2_2 a2_3 a2_4 a2_5 a2_6 = some r) ∧ Aside0 (kq ≤ kj3) ∧ Aside0 (Kd.V k23 23 wc w.heap.size (fun k_ => k_ ≠ gb329) (.slice Ao29 t339.length co29) t339) ∧ Aside0 (wc.heap[gb329]? = some (.cells #[.string a2_0, .int .i64 a2_1, .int .i64 a2_2, .int .i64 a2_3, .int .i64 a2_4, .int .i64 a2_5, .string a2_6] 23 (0, 0))) ∧ Aside0 (Below w.heap.size w wc))
          case first =>
            have H := HC23.out
            clear HC23
            by_cases c31 : t345 = true
            · subst c31
              have H1 : (corebanklaw43_MessageOnce.j1 kj3 t339 true a2_0 a2_1 a2_2 a2_3 a2_4 a2_5 a2_6) = some r := by rw [if_pos rfl] at H; exact H
              clear H
              have H := H1
              clear H1
              have H' := Aside0.mk H
              clear H
              go_wp2
              go_meet
              case rel => exact ⟨_, (true), (by first | rfl | (simp; done) | (simp [*]; done)), H', ⟨by have := HJ3.out; first | omega | exact Nat.le_refl _⟩, ⟨by (with_reducible repeat (first | apply Kd.V_alloc | apply Kd.V_drewN | apply Kd.V_drew)); exact Kd.V_mono HO341.out (fun _ hk => hk.1)⟩, ⟨by (with_reducible repeat (first | refine blk_drewN ?_ _ | refine blk_drew ?_ | refine blk_alloc ?_ _)); exact BK329.out⟩, ⟨by repeat (first | (with_reducible first | exact HB.out | apply below_alloc | apply pw_below_drewN | apply below_drew1 | refine below_set ?_ GE329.out) | exact HB.out)⟩⟩
            · replace c31 := Bool.eq_false_iff.mpr c31
              subst c31
              have H1 : (if t346 = 0 then ((corebankref43_SameAll.f kj3 t339 t342).bind fun t347 => (corebanklaw43_MessageOnce.j1 kj3 t339 (!t347) a2_0 a2_1 a2_2 a2_3 a2_4 a2_5 a2_6)) else (corebanklaw43_MessageOnce.j1 kj3 t339 true a2_0 a2_1 a2_2 a2_3 a2_4 a2_5 a2_6)) = some r := by rw [if_neg (show ¬ (false = true) by decide)] at H; exact H
              clear H
              have H := H1
              clear H1
              by_cases c32 : t346 = 0
              · rw [if_pos c32] at H
                have c32b0 : (t346 == 0) = true := beq_iff_eq.mpr c32
                have c32b1 : (t346 != 0) = false := bne_eq_false_iff_eq.mpr c32
                clear c32
                (first | rw [c32b0] | (simp only [i64_w, i32_w]; rw [c32b0]) | skip)
                replace H := Option.bind_eq_some_iff.mp H
                obtain ⟨t347, A330, H⟩ := H
                replace H : (corebanklaw43_MessageOnce.j1 kj3 t339 (!t347) a2_0 a2_1 a2_2 a2_3 a2_4 a2_5 a2_6) = some r := H
                have A33 := Aside0.mk A330
                clear A330
                have H' := Aside0.mk H
                clear H
                obtain ⟨Ao34, co34, eo34⟩ := Kd.R_slice HO344.out
                subst eo34
                go_wp2_with (first | (go_at_call 20; (with_reducible refine (corebankref43_SameAll.calls kj3 _ _ t339 _ _ t342 t347 _ ?side1 ?side2 ?side3 ?side4 A33.out).mono ?_); (case side1 => repeat (first | exact (Kd.V_reads' HO341.out).2.2 | (with_reducible refine Kd.C_alloc ?_ _) | (with_reducible refine Kd.C_drewN ?_ _) | (with_reducible refine Kd.C_drew ?_))); (case side2 => exact (Kd.V_reads' HO341.out).2.1); (case side3 => repeat (first | exact (Kd.R_reads' HO344.out).2.2 | (with_reducible refine Kd.C_alloc ?_ _) | (with_reducible refine Kd.C_drewN ?_ _) | (with_reducible refine Kd.C_drew ?_))); (case side4 => exact (Kd.R_reads' HO344.out).2.1); rintro e w' ⟨rfl, ⟨nd, rfl⟩⟩))
                go_meet
                case rel => exact ⟨_, (!t347), (by first | rfl | (simp; done) | (simp [*]; done)), H', ⟨by have := HJ3.out; first | omega | exact Nat.le_refl _⟩, ⟨by (with_reducible repeat (first | apply Kd.V_alloc | apply Kd.V_drewN | apply Kd.V_drew)); exact Kd.V_mono HO341.out (fun _ hk => hk.1)⟩, ⟨by (with_reducible repeat (first | refine blk_drewN ?_ _ | refine blk_drew ?_ | refine blk_alloc ?_ _)); exact BK329.out⟩, ⟨by repeat (first | (with_reducible first | exact HB.out | apply below_alloc | apply pw_below_drewN | apply below_drew1 | refine below_set ?_ GE329.out) | exact HB.out)⟩⟩
              · rw [if_neg c32] at H
                have c32b0 : (t346 == 0) = false := beq_eq_false_iff_ne.mpr c32
                have c32b1 : (t346 != 0) = true := bne_iff_ne.mpr c32
                (first | rw [c32b0] | (simp only [i64_w, i32_w]; rw [c32b0]) | skip)
                have H' := Aside0.mk H
                clear H
                go_wp2
                go_meet
                case rel => exact ⟨_, (true), (by first | rfl | (simp; done) | (simp [*]; done)), H', ⟨by have := HJ3.out; first | omega | exact Nat.le_refl _⟩, ⟨by (with_reducible repeat (first | apply Kd.V_alloc | apply Kd.V_drewN | apply Kd.V_drew)); exact Kd.V_mono HO341.out (fun _ hk => hk.1)⟩, ⟨by (with_reducible repeat (first | refine blk_drewN ?_ _ | refine blk_drew ?_ | refine blk_alloc ?_ _)); exact BK329.out⟩, ⟨by repeat (first | (with_reducible first | exact HB.out | apply below_alloc | apply pw_below_drewN | apply below_drew1 | refine below_set ?_ GE329.out) | exact HB.out)⟩⟩
          case rest =>
            clear HC23
            try clear c1
            try clear c2
            try clear p2
            try clear c3
            try clear c7
            try clear c8
            try clear c10
            try clear c17
            try clear c18
            try clear c20
            try clear c20b0
            try clear c20b1
            try clear c24
            try clear c31
            try clear c32
            try clear c32b0
            try clear c32b1
            try clear hcz16_0
            try clear hcz16_1
            try clear hcz16_2
            try clear hcz16_3
            try clear hcz16_4
            try clear hcz16_5
            try clear hcz16_6
            try clear hcz24_0
            try clear hcz24_1
            try clear hcz24_2
            try clear hcz24_3
            try clear hcz24_4
            try clear hcz24_5
            try clear hcz24_6
            try clear hcz28_0
            try clear hcz28_1
            try clear hcz28_2
            try clear hcz28_3
            try clear hcz28_4
            try clear hcz28_5
            try clear hcz28_6
            try clear hfz16_0
            try clear hfz16_1
            try clear hfz16_2
            try clear hfz16_3
            try clear hfz16_4
            try clear hfz16_5
            try clear hfz16_6
            try clear hfz24_0
            try clear hfz24_1
            try clear hfz24_2
            try clear hfz24_3
            try clear hfz24_4
            try clear hfz24_5
            try clear hfz24_6
            try clear hfz28_0
            try clear hfz28_1
            try clear hfz28_2
            try clear hfz28_3
            try clear hfz28_4
            try clear hfz28_5
            try clear hfz28_6
            try clear p2
            obtain ⟨kq, x57_22, rfl, HA, HJ22, HO_7, BK329, HB⟩ := hcut
            cases kq with
            | zero => exact absurd HA.out (by simp [corebanklaw43_MessageOnce.j1])
            | succ kj22 =>
              have H := HA.out
              clear HA
              simp only [corebanklaw43_MessageOnce.j1] at H
              obtain ⟨W4_, hW4_⟩ : ∃ W, wrap64 ((Int.tmod a2_4 2) + 1) = W := ⟨_, rfl⟩
              obtain ⟨W5_, hW5_⟩ : ∃ W, wrap64 (Int.tdiv a2_5 2) = W := ⟨_, rfl⟩
              rw [hW4_, hW5_] at H
              have hVr := Kd.V_reads' HO_7.out
              have HCx := Lib.hid (And.intro hVr.2.2 hVr.2.1)
              have BKm := Lib.hid (show wc.heap[gb329]? = some (.cells (encM (⟨a2_0, a2_1, a2_2, a2_3, a2_4, a2_5, a2_6⟩ : S23)).toArray 23 (0, 0)) from BK329.out)
              obtain ⟨y0, y1, y2, y3, y4, y5, y6⟩ := box_cells BKm.out
              have HBB := Lib.hid HB.out
              have HTT := Lib.hid HTab.out
              have hql := eqlM (⟨a2_0, a2_1, a2_2, a2_3, W4_, W5_, a2_6⟩ : S23) (⟨a2_0, a2_1, a2_2, a2_3, a2_4, a2_5, a2_6⟩ : S23)
              have hsm : sameM (⟨a2_0, a2_1, a2_2, a2_3, W4_, W5_, a2_6⟩ : S23) (⟨a2_0, a2_1, a2_2, a2_3, a2_4, a2_5, a2_6⟩ : S23) = (W4_ == a2_4 && W5_ == a2_5) := by simp [sameM]
              rw [hsm] at hql
              clear hsm hVr
              by_cases c35 : x57_22 = true
              · subst c35
                have H1 : (some false) = some r := by rw [if_pos rfl] at H; exact H
                obtain rfl := Option.some.inj H1
                clear H H1 hql
                go_wp2
                go_ret
                exact ⟨rfl, HBB.out⟩
              · obtain rfl : x57_22 = false := by simpa using c35
                rw [if_neg (by decide)] at H
                obtain ⟨⟨t349, t352, t353⟩, A36_, H⟩ := Option.bind_eq_some_iff.mp H
                have A36 := Aside0.mk A36_
                clear A36_ c35
                dsimp only at H
                by_cases c37 : (W4_ == a2_4 && (W5_ == a2_5)) = true
                · rw [if_pos c37] at H
                  rw [c37] at hql
                  by_cases c38 : t352 = true
                  · subst c38
                    rw [if_pos rfl] at H
                    obtain rfl := Option.some.inj H
                    clear H
                    go_wp2_with (first | (go_at_call 18; go_loud (refine (message_Receive.calls Ao29 co29 t339 a2_0 a2_1 a2_2 a2_3 W4_ W5_ a2_6 _ _ _ _ (Kd.C_below HCx.out.1 (below_alloc (Below.refl _ _) _)) HCx.out.2 A36.out).mono ?_; rintro e' wr ⟨vr, rfl, hR, hb_⟩; obtain ⟨Ar, cr, hvr, hcr, hCr⟩ := Kd.R_reads hR; subst hvr; have hb2 := below_then (below_alloc (Below.refl wc.heap.size wc) _) (by rw [World.size_alloc]; omega) hb_; have HCr := Lib.hid (And.intro hCr hcr); have HXb := (hb_.block wc.heap.size (by rw [World.size_alloc]; omega)).trans (heap_alloc_new wc _); obtain ⟨p0, p1, p2, p3, p4, p5, p6⟩ := box_cells (m := ⟨a2_0, a2_1, a2_2, a2_3, W4_, W5_, a2_6⟩) HXb; obtain ⟨q0, q1, q2, q3, q4, q5, q6⟩ := box_cells (m := ⟨a2_0, a2_1, a2_2, a2_3, a2_4, a2_5, a2_6⟩) ((hb2.block _ (blk_lt BKm.out)).trans BKm.out); have HCy := Lib.hid (And.intro (Kd.C_below HCx.out.1 hb2) HCx.out.2); have HBr := Lib.hid (bel1 HBB.out hb2); clear hb_ hb2 hR hCr hcr HXb)))
                    go_ret
                    exact ⟨by first | rfl | (simp; done), HBr.out⟩
                  · obtain rfl : t352 = false := by simpa using c38
                    rw [if_neg (by decide)] at H
                    clear c38
                    by_cases c39 : t353 = 0
                    · subst c39
                      rw [if_pos rfl] at H
                      obtain ⟨t354, A37_, H⟩ := Option.bind_eq_some_iff.mp H
                      have A37 := Aside0.mk A37_
                      clear A37_
                      by_cases c40 : t354 = true
                      · subst c40
                        rw [if_pos rfl] at H
                        obtain ⟨t355, A38_, H⟩ := Option.bind_eq_some_iff.mp H
                        have A38 := Aside0.mk A38_
                        clear A38_
                        obtain rfl := Option.some.inj H
                        clear H
                        go_wp2_with (first | (go_at_call 18; go_loud (refine (message_Receive.calls Ao29 co29 t339 a2_0 a2_1 a2_2 a2_3 W4_ W5_ a2_6 _ _ _ _ (Kd.C_below HCx.out.1 (below_alloc (Below.refl _ _) _)) HCx.out.2 A36.out).mono ?_; rintro e' wr ⟨vr, rfl, hR, hb_⟩; obtain ⟨Ar, cr, hvr, hcr, hCr⟩ := Kd.R_reads hR; subst hvr; have hb2 := below_then (below_alloc (Below.refl wc.heap.size wc) _) (by rw [World.size_alloc]; omega) hb_; have HCr := Lib.hid (And.intro hCr hcr); have HXb := (hb_.block wc.heap.size (by rw [World.size_alloc]; omega)).trans (heap_alloc_new wc _); obtain ⟨p0, p1, p2, p3, p4, p5, p6⟩ := box_cells (m := ⟨a2_0, a2_1, a2_2, a2_3, W4_, W5_, a2_6⟩) HXb; obtain ⟨q0, q1, q2, q3, q4, q5, q6⟩ := box_cells (m := ⟨a2_0, a2_1, a2_2, a2_3, a2_4, a2_5, a2_6⟩) ((hb2.block _ (blk_lt BKm.out)).trans BKm.out); have HCy := Lib.hid (And.intro (Kd.C_below HCx.out.1 hb2) HCx.out.2); have HBr := Lib.hid (bel1 HBB.out hb2); clear hb_ hb2 hR hCr hcr HXb)) | (go_at_call 20; go_loud (refine (corebankref43_SameAll.calls kj22 Ao29 co29 t339 Ar cr t349 _ _ HCy.out.1 HCy.out.2 HCr.out.1 HCr.out.2 A37.out).mono ?_; rintro e' wd ⟨rfl, hd⟩; have HBd := Lib.hid (live_drawn HBr.out hd); clear hd)) | (go_at_call 16; go_loud (refine (corebanklaw43_live.calls _ _ (HTT.out.below HBd.out) A38.out).mono ?_; rintro e' wl ⟨rfl, hl_⟩; have HBl := Lib.hid (bel1 HBd.out hl_); clear hl_)))
                        go_ret
                        exact ⟨by first | rfl | (simp; done), HBl.out⟩
                      · obtain rfl : t354 = false := by simpa using c40
                        rw [if_neg (by decide)] at H
                        obtain rfl := Option.some.inj H
                        clear H
                        go_wp2_with (first | (go_at_call 18; go_loud (refine (message_Receive.calls Ao29 co29 t339 a2_0 a2_1 a2_2 a2_3 W4_ W5_ a2_6 _ _ _ _ (Kd.C_below HCx.out.1 (below_alloc (Below.refl _ _) _)) HCx.out.2 A36.out).mono ?_; rintro e' wr ⟨vr, rfl, hR, hb_⟩; obtain ⟨Ar, cr, hvr, hcr, hCr⟩ := Kd.R_reads hR; subst hvr; have hb2 := below_then (below_alloc (Below.refl wc.heap.size wc) _) (by rw [World.size_alloc]; omega) hb_; have HCr := Lib.hid (And.intro hCr hcr); have HXb := (hb_.block wc.heap.size (by rw [World.size_alloc]; omega)).trans (heap_alloc_new wc _); obtain ⟨p0, p1, p2, p3, p4, p5, p6⟩ := box_cells (m := ⟨a2_0, a2_1, a2_2, a2_3, W4_, W5_, a2_6⟩) HXb; obtain ⟨q0, q1, q2, q3, q4, q5, q6⟩ := box_cells (m := ⟨a2_0, a2_1, a2_2, a2_3, a2_4, a2_5, a2_6⟩) ((hb2.block _ (blk_lt BKm.out)).trans BKm.out); have HCy := Lib.hid (And.intro (Kd.C_below HCx.out.1 hb2) HCx.out.2); have HBr := Lib.hid (bel1 HBB.out hb2); clear hb_ hb2 hR hCr hcr HXb)) | (go_at_call 20; go_loud (refine (corebankref43_SameAll.calls kj22 Ao29 co29 t339 Ar cr t349 _ _ HCy.out.1 HCy.out.2 HCr.out.1 HCr.out.2 A37.out).mono ?_; rintro e' wd ⟨rfl, hd⟩; have HBd := Lib.hid (live_drawn HBr.out hd); clear hd)))
                        go_ret
                        exact ⟨by first | rfl | (simp; done), HBd.out⟩
                    · rw [if_neg c39] at H
                      obtain rfl := Option.some.inj H
                      have c39b : (t353 == 0) = false := beq_eq_false_iff_ne.mpr c39
                      clear H
                      go_wp2_with (first | (go_at_call 18; go_loud (refine (message_Receive.calls Ao29 co29 t339 a2_0 a2_1 a2_2 a2_3 W4_ W5_ a2_6 _ _ _ _ (Kd.C_below HCx.out.1 (below_alloc (Below.refl _ _) _)) HCx.out.2 A36.out).mono ?_; rintro e' wr ⟨vr, rfl, hR, hb_⟩; obtain ⟨Ar, cr, hvr, hcr, hCr⟩ := Kd.R_reads hR; subst hvr; have hb2 := below_then (below_alloc (Below.refl wc.heap.size wc) _) (by rw [World.size_alloc]; omega) hb_; have HCr := Lib.hid (And.intro hCr hcr); have HXb := (hb_.block wc.heap.size (by rw [World.size_alloc]; omega)).trans (heap_alloc_new wc _); obtain ⟨p0, p1, p2, p3, p4, p5, p6⟩ := box_cells (m := ⟨a2_0, a2_1, a2_2, a2_3, W4_, W5_, a2_6⟩) HXb; obtain ⟨q0, q1, q2, q3, q4, q5, q6⟩ := box_cells (m := ⟨a2_0, a2_1, a2_2, a2_3, a2_4, a2_5, a2_6⟩) ((hb2.block _ (blk_lt BKm.out)).trans BKm.out); have HCy := Lib.hid (And.intro (Kd.C_below HCx.out.1 hb2) HCx.out.2); have HBr := Lib.hid (bel1 HBB.out hb2); clear hb_ hb2 hR hCr hcr HXb)))
                      go_ret
                      exact ⟨by first | rfl | (simp; done), HBr.out⟩
                · rw [if_neg c37] at H
                  have c37b : (W4_ == a2_4 && (W5_ == a2_5)) = false := by simpa using c37
                  rw [c37b] at hql
                  by_cases c38 : t352 = true
                  · subst c38
                    rw [if_pos rfl] at H
                    obtain rfl := Option.some.inj H
                    clear H
                    go_wp2_with (first | (go_at_call 18; go_loud (refine (message_Receive.calls Ao29 co29 t339 a2_0 a2_1 a2_2 a2_3 W4_ W5_ a2_6 _ _ _ _ (Kd.C_below HCx.out.1 (below_alloc (Below.refl _ _) _)) HCx.out.2 A36.out).mono ?_; rintro e' wr ⟨vr, rfl, hR, hb_⟩; obtain ⟨Ar, cr, hvr, hcr, hCr⟩ := Kd.R_reads hR; subst hvr; have hb2 := below_then (below_alloc (Below.refl wc.heap.size wc) _) (by rw [World.size_alloc]; omega) hb_; have HCr := Lib.hid (And.intro hCr hcr); have HXb := (hb_.block wc.heap.size (by rw [World.size_alloc]; omega)).trans (heap_alloc_new wc _); obtain ⟨p0, p1, p2, p3, p4, p5, p6⟩ := box_cells (m := ⟨a2_0, a2_1, a2_2, a2_3, W4_, W5_, a2_6⟩) HXb; obtain ⟨q0, q1, q2, q3, q4, q5, q6⟩ := box_cells (m := ⟨a2_0, a2_1, a2_2, a2_3, a2_4, a2_5, a2_6⟩) ((hb2.block _ (blk_lt BKm.out)).trans BKm.out); have HCy := Lib.hid (And.intro (Kd.C_below HCx.out.1 hb2) HCx.out.2); have HBr := Lib.hid (bel1 HBB.out hb2); clear hb_ hb2 hR hCr hcr HXb)))
                    go_ret
                    exact ⟨by first | rfl | (simp; done), HBr.out⟩
                  · obtain rfl : t352 = false := by simpa using c38
                    rw [if_neg (by decide)] at H
                    clear c38
                    by_cases c39 : t353 = 13
                    · subst c39
                      rw [if_pos rfl] at H
                      by_cases c40 : (t349.length : Int) = 0
                      · rw [if_pos c40] at H
                        obtain ⟨t355, A38_, H⟩ := Option.bind_eq_some_iff.mp H
                        have A38 := Aside0.mk A38_
                        clear A38_
                        obtain rfl := Option.some.inj H
                        have c40b : ((t349.length : Int) == 0) = true := beq_iff_eq.mpr c40
                        have c40d : (t349.length == 0) = true := by simpa using c40
                        clear H c40
                        go_wp2_with (first | (go_at_call 18; go_loud (refine (message_Receive.calls Ao29 co29 t339 a2_0 a2_1 a2_2 a2_3 W4_ W5_ a2_6 _ _ _ _ (Kd.C_below HCx.out.1 (below_alloc (Below.refl _ _) _)) HCx.out.2 A36.out).mono ?_; rintro e' wr ⟨vr, rfl, hR, hb_⟩; obtain ⟨Ar, cr, hvr, hcr, hCr⟩ := Kd.R_reads hR; subst hvr; have hb2 := below_then (below_alloc (Below.refl wc.heap.size wc) _) (by rw [World.size_alloc]; omega) hb_; have HCr := Lib.hid (And.intro hCr hcr); have HXb := (hb_.block wc.heap.size (by rw [World.size_alloc]; omega)).trans (heap_alloc_new wc _); obtain ⟨p0, p1, p2, p3, p4, p5, p6⟩ := box_cells (m := ⟨a2_0, a2_1, a2_2, a2_3, W4_, W5_, a2_6⟩) HXb; obtain ⟨q0, q1, q2, q3, q4, q5, q6⟩ := box_cells (m := ⟨a2_0, a2_1, a2_2, a2_3, a2_4, a2_5, a2_6⟩) ((hb2.block _ (blk_lt BKm.out)).trans BKm.out); have HCy := Lib.hid (And.intro (Kd.C_below HCx.out.1 hb2) HCx.out.2); have HBr := Lib.hid (bel1 HBB.out hb2); clear hb_ hb2 hR hCr hcr HXb)) | (go_at_call 16; go_loud (refine (corebanklaw43_live.calls _ _ (HTT.out.below HBr.out) A38.out).mono ?_; rintro e' wl ⟨rfl, hl_⟩; have HBl := Lib.hid (bel1 HBr.out hl_); clear hl_)))
                        go_ret
                        exact ⟨by first | rfl | (simp; done), HBl.out⟩
                      · rw [if_neg c40] at H
                        obtain rfl := Option.some.inj H
                        have c40b : ((t349.length : Int) == 0) = false := beq_eq_false_iff_ne.mpr c40
                        have c40d : (t349.length == 0) = false := by simpa using c40
                        clear H c40
                        go_wp2_with (first | (go_at_call 18; go_loud (refine (message_Receive.calls Ao29 co29 t339 a2_0 a2_1 a2_2 a2_3 W4_ W5_ a2_6 _ _ _ _ (Kd.C_below HCx.out.1 (below_alloc (Below.refl _ _) _)) HCx.out.2 A36.out).mono ?_; rintro e' wr ⟨vr, rfl, hR, hb_⟩; obtain ⟨Ar, cr, hvr, hcr, hCr⟩ := Kd.R_reads hR; subst hvr; have hb2 := below_then (below_alloc (Below.refl wc.heap.size wc) _) (by rw [World.size_alloc]; omega) hb_; have HCr := Lib.hid (And.intro hCr hcr); have HXb := (hb_.block wc.heap.size (by rw [World.size_alloc]; omega)).trans (heap_alloc_new wc _); obtain ⟨p0, p1, p2, p3, p4, p5, p6⟩ := box_cells (m := ⟨a2_0, a2_1, a2_2, a2_3, W4_, W5_, a2_6⟩) HXb; obtain ⟨q0, q1, q2, q3, q4, q5, q6⟩ := box_cells (m := ⟨a2_0, a2_1, a2_2, a2_3, a2_4, a2_5, a2_6⟩) ((hb2.block _ (blk_lt BKm.out)).trans BKm.out); have HCy := Lib.hid (And.intro (Kd.C_below HCx.out.1 hb2) HCx.out.2); have HBr := Lib.hid (bel1 HBB.out hb2); clear hb_ hb2 hR hCr hcr HXb)))
                        go_ret
                        exact ⟨by first | rfl | (simp; done), HBr.out⟩
                    · rw [if_neg c39] at H
                      obtain rfl := Option.some.inj H
                      have c39b : (t353 == 13) = false := beq_eq_false_iff_ne.mpr c39
                      clear H
                      go_wp2_with (first | (go_at_call 18; go_loud (refine (message_Receive.calls Ao29 co29 t339 a2_0 a2_1 a2_2 a2_3 W4_ W5_ a2_6 _ _ _ _ (Kd.C_below HCx.out.1 (below_alloc (Below.refl _ _) _)) HCx.out.2 A36.out).mono ?_; rintro e' wr ⟨vr, rfl, hR, hb_⟩; obtain ⟨Ar, cr, hvr, hcr, hCr⟩ := Kd.R_reads hR; subst hvr; have hb2 := below_then (below_alloc (Below.refl wc.heap.size wc) _) (by rw [World.size_alloc]; omega) hb_; have HCr := Lib.hid (And.intro hCr hcr); have HXb := (hb_.block wc.heap.size (by rw [World.size_alloc]; omega)).trans (heap_alloc_new wc _); obtain ⟨p0, p1, p2, p3, p4, p5, p6⟩ := box_cells (m := ⟨a2_0, a2_1, a2_2, a2_3, W4_, W5_, a2_6⟩) HXb; obtain ⟨q0, q1, q2, q3, q4, q5, q6⟩ := box_cells (m := ⟨a2_0, a2_1, a2_2, a2_3, a2_4, a2_5, a2_6⟩) ((hb2.block _ (blk_lt BKm.out)).trans BKm.out); have HCy := Lib.hid (And.intro (Kd.C_below HCx.out.1 hb2) HCx.out.2); have HBr := Lib.hid (bel1 HBB.out hb2); clear hb_ hb2 hR hCr hcr HXb)))
                      go_ret
                      exact ⟨by first | rfl | (simp; done), HBr.out⟩
        · rw [if_neg c20] at H
          have c20b0 : (t337 == 0) = false := beq_eq_false_iff_ne.mpr c20
          have c20b1 : (t337 != 0) = true := bne_iff_ne.mpr c20
          replace H := Option.bind_eq_some_iff.mp H
          obtain ⟨t338, A1090, H⟩ := H
          replace H : (some t338) = some r := H
          have A109 := Aside0.mk A1090
          clear A1090
          obtain rfl := Option.some.inj H
          have hcz110_0 : wc.cell? ⟨gb329, 0, none⟩ = some (.string a2_0) := (blk_cell BK329.out 0).trans rfl
          have hcz110_1 : wc.cell? ⟨gb329, 1, none⟩ = some (.int .i64 a2_1) := (blk_cell BK329.out 1).trans rfl
          have hcz110_2 : wc.cell? ⟨gb329, 2, none⟩ = some (.int .i64 a2_2) := (blk_cell BK329.out 2).trans rfl
          have hcz110_3 : wc.cell? ⟨gb329, 3, none⟩ = some (.int .i64 a2_3) := (blk_cell BK329.out 3).trans rfl
          have hcz110_4 : wc.cell? ⟨gb329, 4, none⟩ = some (.int .i64 a2_4) := (blk_cell BK329.out 4).trans rfl
          have hcz110_5 : wc.cell? ⟨gb329, 5, none⟩ = some (.int .i64 a2_5) := (blk_cell BK329.out 5).trans rfl
          have hcz110_6 : wc.cell? ⟨gb329, 6, none⟩ = some (.string a2_6) := (blk_cell BK329.out 6).trans rfl
          have hfz110_0 := blk_frozen BK329.out 0
          have hfz110_1 := blk_frozen BK329.out 1
          have hfz110_2 := blk_frozen BK329.out 2
          have hfz110_3 := blk_frozen BK329.out 3
          have hfz110_4 := blk_frozen BK329.out 4
          have hfz110_5 := blk_frozen BK329.out 5
          have hfz110_6 := blk_frozen BK329.out 6
          go_wp2_with (first | ((with_reducible refine gate_callee (f := 18) rfl ?_); refine goesL_ (some 30) rfl rfl Tryd.func18 (by kernel_rfl) rfl #[.slice A0 l0.length c0, .agg #[.string a2_0, .int .i64 a2_1, .int .i64 a2_2, .int .i64 a2_3, .int .i64 a2_4, .int .i64 a2_5, .string a2_6]] rfl (by (try simp only [List.map_toArray, List.map_cons, List.map_nil]); first | done | rfl | (simp only [List.length_drop, List.length_take]; rfl)) ?_; (with_reducible refine (message_Receive.calls _ _ l0 a2_0 a2_1 a2_2 a2_3 a2_4 a2_5 a2_6 t333 t336 t337 _ ?side1 ?side2 A19.out).mono ?_); (case side1 => repeat (first | exact (Kd.C_below HR0.out HB.out) | (with_reducible refine Kd.C_alloc ?_ _) | (with_reducible refine Kd.C_drewN ?_ _) | (with_reducible refine Kd.C_drew ?_))); (case side2 => exact HC0.out); rintro e w111 ⟨v334, rfl, ho0, hb⟩; refine ⟨_, rfl, ?_⟩; have n0_ := Aside0.mk (Kd.R_lower (Kd.R_newB ho0 (g := gb329) (o := .cells #[.string a2_0, .int .i64 a2_1, .int .i64 a2_2, .int .i64 a2_3, .int .i64 a2_4, .int .i64 a2_5, .string a2_6] 23 (0, 0)) (by (with_reducible repeat (first | refine blk_drewN ?_ _ | refine blk_drew ?_ | refine blk_alloc ?_ _)); exact BK329.out)) (below_size (by repeat (first | (with_reducible first | exact HB.out | apply below_alloc | apply pw_below_drewN | apply below_drew1 | refine below_set ?_ GE329.out) | exact HB.out)))); have n1_ := Aside0.mk (blk_below (g := gb329) (o := .cells #[.string a2_0, .int .i64 a2_1, .int .i64 a2_2, .int .i64 a2_3, .int .i64 a2_4, .int .i64 a2_5, .string a2_6] 23 (0, 0)) (by (with_reducible repeat (first | refine blk_drewN ?_ _ | refine blk_drew ?_ | refine blk_alloc ?_ _)); exact BK329.out) hb); have n2_ := Aside0.mk (below_step (by repeat (first | (with_reducible first | exact HB.out | apply below_alloc | apply pw_below_drewN | apply below_drew1 | refine below_set ?_ GE329.out) | exact HB.out)) hb); clear BK329; clear HB; have HO335 := n0_; have BK329 := n1_; have HB := n2_; clear n0_ n1_ n2_; (try clear hb); (try clear hb2); (try clear hk); (try clear hi); (try clear ho0)) | ((with_reducible refine gate_callee (f := 16) rfl ?_); refine goesL_ (some 36) rfl rfl Tryd.func16 (by kernel_rfl) rfl #[] rfl (by (try simp only [List.map_toArray, List.map_cons, List.map_nil]); first | done | rfl | (simp only [List.length_drop, List.length_take]; rfl)) ?_; (with_reducible refine (corebanklaw43_live.calls  t338 _ ?side1 A109.out).mono ?_); (case side1 => refine TabW.below HTab.out ?_; repeat (first | (with_reducible first | exact HB.out | apply below_alloc | apply pw_below_drewN | apply below_drew1 | refine below_set ?_ GE329.out) | exact HB.out)); rintro e w112 ⟨rfl, hb⟩; refine ⟨_, rfl, ?_⟩; have n0_ := Aside0.mk (Kd.R_below (by (with_reducible repeat (first | apply Kd.R_alloc | apply Kd.R_drewN | apply Kd.R_drew)); exact HO335.out) hb); have n1_ := Aside0.mk (blk_below (g := gb329) (o := .cells #[.string a2_0, .int .i64 a2_1, .int .i64 a2_2, .int .i64 a2_3, .int .i64 a2_4, .int .i64 a2_5, .string a2_6] 23 (0, 0)) (by (with_reducible repeat (first | refine blk_drewN ?_ _ | refine blk_drew ?_ | refine blk_alloc ?_ _)); exact BK329.out) hb); have n2_ := Aside0.mk (below_step (by repeat (first | (with_reducible first | exact HB.out | apply below_alloc | apply pw_below_drewN | apply below_drew1 | refine below_set ?_ GE329.out) | exact HB.out)) hb); clear HO335; clear BK329; clear HB; have HO335 := n0_; have BK329 := n1_; have HB := n2_; clear n0_ n1_ n2_; (try clear hb); (try clear hb2); (try clear hk); (try clear hi)))
          go_ret
          exact ⟨by first | rfl | (simp [errW_none, errW_some] <;> rfl) | (simp [*, errW_none, errW_some] <;> rfl), by repeat (first | (with_reducible first | exact HB.out | apply below_alloc | apply pw_below_drewN | apply below_drew1 | refine below_set ?_ GE329.out) | exact HB.out)⟩
end Go.Proofs.YthmlibimhdeocaaDoor.QD

