-- Written by this session's driver (wip/drive.py) over the kit's print, for this seat.
import Derived.Test.YtmloobkgnefgcaaDoorQDx0
import Derived.Test.YtmloobkgnefgcaaDoorQDx1
import Derived.Test.YtmloobkgnefgcaaDoorQDx5
namespace Go.Proofs.YtmloobkgnefgcaaDoor.QD
open Go.RowKit Go.Proofs.YtmloobkgnefgcaaDoorW.PrintWords Go.Proofs.YtmloobkgnefgcaaDoorW.PrintLast Go.Proofs.YtmloobkgnefgcaaDoorW.PrintMore
attribute [local go_sem] max2_int min2_int max_two min_two max_three min_three max_four min_four   -- for this text's walks alone
set_option linter.unusedVariables false
set_option linter.unusedSimpArgs false

/-! ### digest_Pair: function 26 -/
def digest_Pair.f (k : Nat) (a0 : Int) (a1 : Int) : Option (Int) := (digest_eight.f k 14695981039346656037 a0).bind fun t198 => ((digest_eight.f k t198 a1).bind fun t199 => (some t199))
theorem digest_Pair.mono : ∀ a0 a1 k, LeO (digest_Pair.f k a0 a1) (digest_Pair.f (k + 1) a0 a1) := by
  intro a0 a1 k
  unfold digest_Pair.f
  repeat' first
      | (with_reducible exact digest_eight.mono _ _ _)
      | (with_reducible exact LeO.refl _)
      | (with_reducible exact LeO.none _)
      | (with_reducible refine LeO.ite ?_ ?_)
      | (with_reducible refine LeO.bind ?_ (fun _ => ?_))
      | exact digest_eight.mono _ _ _
      | exact LeO.none _
      | refine LeO.ite ?_ ?_
      | refine LeO.bind ?_ (fun _ => ?_)
set_option maxHeartbeats 8000000 in
set_option maxRecDepth 100000 in
theorem digest_Pair.calls (k : Nat) (a0 : Int) (a1 : Int) (r : Int) (w : World) (h : digest_Pair.f k a0 a1 = some r) :
    Calls Tryd.prog 26 #[.int .u64 a0, .int .u64 a1] w fun e w' => e = .returned (.int .u64 r) ∧ Drawn0 w w' := by
  have H : ((digest_eight.f k 14695981039346656037 a0).bind fun t198 => ((digest_eight.f k t198 a1).bind fun t199 => (some t199))) = some r := h
  clear h
  replace H := Option.bind_eq_some_iff.mp H
  obtain ⟨t198, A30, H⟩ := H
  replace H : ((digest_eight.f k t198 a1).bind fun t199 => (some t199)) = some r := H
  have A3 := Aside0.mk A30
  clear A30
  replace H := Option.bind_eq_some_iff.mp H
  obtain ⟨t199, A40, H⟩ := H
  replace H : (some t199) = some r := H
  have A4 := Aside0.mk A40
  clear A40
  obtain rfl := Option.some.inj H
  go_enter Tryd.func26, Tryd.ntmps26
  go_wp2_with (first | ((with_reducible refine gate_callee (f := 36) rfl ?_); refine goesL_ (some 6) rfl rfl Tryd.func36 (by kernel_rfl) rfl #[.int .u64 14695981039346656037, .int .u64 a0] rfl (by (try simp only [List.map_toArray, List.map_cons, List.map_nil]); first | done | rfl | (simp only [List.length_drop, List.length_take]; rfl)) ?_; (with_reducible refine (digest_eight.calls k 14695981039346656037 a0 t198 _ A3.out).mono ?_); rintro e w' ⟨rfl, ⟨nd, rfl⟩⟩; refine ⟨_, rfl, ?_⟩) | ((with_reducible refine gate_callee (f := 36) rfl ?_); refine goesL_ (some 8) rfl rfl Tryd.func36 (by kernel_rfl) rfl #[.int .u64 t198, .int .u64 a1] rfl (by (try simp only [List.map_toArray, List.map_cons, List.map_nil]); first | done | rfl | (simp only [List.length_drop, List.length_take]; rfl)) ?_; (with_reducible refine (digest_eight.calls k t198 a1 t199 _ A4.out).mono ?_); rintro e w' ⟨rfl, ⟨nd, rfl⟩⟩; refine ⟨_, rfl, ?_⟩))
  go_ret
  exact ⟨by first | rfl | (simp; done) | (simp [*]; done), by repeat (first | exact Drawn0.refl _ | apply Drawn0.step)⟩

/-! ### corebankref08_Pair: function 27 -/
def corebankref08_Pair.f (k : Nat) (a0 : Int) (a1 : Int) : Option (Int) := (corebankref08_eight.f k a1).bind fun t200 => ((corebankref08_Chain.f k a0 t200).bind fun t201 => (some t201))
theorem corebankref08_Pair.mono : ∀ a0 a1 k, LeO (corebankref08_Pair.f k a0 a1) (corebankref08_Pair.f (k + 1) a0 a1) := by
  intro a0 a1 k
  unfold corebankref08_Pair.f
  repeat' first
      | (with_reducible exact corebankref08_Chain.mono _ _ _)
      | (with_reducible exact corebankref08_eight.mono _ _)
      | (with_reducible exact LeO.refl _)
      | (with_reducible exact LeO.none _)
      | (with_reducible refine LeO.ite ?_ ?_)
      | (with_reducible refine LeO.bind ?_ (fun _ => ?_))
      | exact corebankref08_Chain.mono _ _ _
      | exact corebankref08_eight.mono _ _
      | exact LeO.none _
      | refine LeO.ite ?_ ?_
      | refine LeO.bind ?_ (fun _ => ?_)
set_option maxHeartbeats 8000000 in
set_option maxRecDepth 100000 in
theorem corebankref08_Pair.calls (k : Nat) (a0 : Int) (a1 : Int) (r : Int) (w : World) (h : corebankref08_Pair.f k a0 a1 = some r) :
    Calls Tryd.prog 27 #[.int .u64 a0, .int .u64 a1] w fun e w' => e = .returned (.int .u64 r) ∧ Below w.heap.size w w' := by
  have HB := Aside0.mk (Below.refl w.heap.size w)
  have H : ((corebankref08_eight.f k a1).bind fun t200 => ((corebankref08_Chain.f k a0 t200).bind fun t201 => (some t201))) = some r := h
  clear h
  replace H := Option.bind_eq_some_iff.mp H
  obtain ⟨t200, A30, H⟩ := H
  replace H : ((corebankref08_Chain.f k a0 t200).bind fun t201 => (some t201)) = some r := H
  have A3 := Aside0.mk A30
  clear A30
  replace H := Option.bind_eq_some_iff.mp H
  obtain ⟨t201, A40, H⟩ := H
  replace H : (some t201) = some r := H
  have A4 := Aside0.mk A40
  clear A40
  obtain rfl := Option.some.inj H
  go_enter Tryd.func27, Tryd.ntmps27
  go_wp2_with (first | ((with_reducible refine gate_callee (f := 37) rfl ?_); refine goesL_ (some 7) rfl rfl Tryd.func37 (by kernel_rfl) rfl #[.int .u64 a1] rfl (by (try simp only [List.map_toArray, List.map_cons, List.map_nil]); first | done | rfl | (simp only [List.length_drop, List.length_take]; rfl)) ?_; (with_reducible refine (corebankref08_eight.calls k a1 t200 _ A3.out).mono ?_); rintro e w5 ⟨rfl, hb⟩; refine ⟨_, rfl, ?_⟩; have n0_ := Aside0.mk (below_step (by repeat (first | (with_reducible first | exact HB.out | apply below_alloc | apply pw_below_drewN | apply below_drew1) | exact HB.out)) hb); clear HB; have HB := n0_; clear n0_; (try clear hb); (try clear hb2); (try clear hk); (try clear hi)) | ((with_reducible refine gate_callee (f := 25) rfl ?_); refine goesL_ (some 8) rfl rfl Tryd.func25 (by kernel_rfl) rfl #[.int .u64 a0, .string t200] rfl (by (try simp only [List.map_toArray, List.map_cons, List.map_nil]); first | done | rfl | (simp only [List.length_drop, List.length_take]; rfl)) ?_; (with_reducible refine (corebankref08_Chain.calls k a0 t200 t201 _ A4.out).mono ?_); rintro e w6 ⟨rfl, hb⟩; refine ⟨_, rfl, ?_⟩; have n0_ := Aside0.mk (below_step (by repeat (first | (with_reducible first | exact HB.out | apply below_alloc | apply pw_below_drewN | apply below_drew1) | exact HB.out)) hb); clear HB; have HB := n0_; clear n0_; (try clear hb); (try clear hb2); (try clear hk); (try clear hi)))
  go_ret
  exact ⟨by first | rfl | (simp [errW_none, errW_some] <;> rfl) | (simp [*, errW_none, errW_some] <;> rfl), by repeat (first | (with_reducible first | exact HB.out | apply below_alloc | apply pw_below_drewN | apply below_drew1) | exact HB.out)⟩

/-! ### corebanklaw08_DigestHashes: function 8 -/
mutual
def corebanklaw08_DigestHashes.j0 : Nat → Int → ByteArray → ByteArray → Bool → Option (Bool)
  | 0, _, _, _, _ => none
  | k + 1, x0, x1, x2, x14 => if x14 = true then ((corebanklaw08_live.f k).bind fun t202 => (some t202)) else ((digest_Hash.f k x1).bind fun t203 => ((corebankref08_Hash.f k x1).bind fun t204 => (if t203 = t204 then ((digest_Chain.f k x0 x1).bind fun t205 => ((corebankref08_Chain.f k x0 x1).bind fun t206 => (if t205 = t206 then ((digest_Hash.f k x2).bind fun t207 => ((digest_Pair.f k x0 t207).bind fun t208 => ((corebankref08_Hash.f k x2).bind fun t209 => ((corebankref08_Pair.f k x0 t209).bind fun t210 => (corebanklaw08_DigestHashes.j1 k x0 x1 x2 (t208 != t210)))))) else (corebanklaw08_DigestHashes.j1 k x0 x1 x2 true)))) else (corebanklaw08_DigestHashes.j1 k x0 x1 x2 true))))
def corebanklaw08_DigestHashes.j1 : Nat → Int → ByteArray → ByteArray → Bool → Option (Bool)
  | 0, _, _, _, _ => none
  | k + 1, x0, x1, x2, x40 => if x40 = true then (some false) else (if x1.size + x2.size ≤ 9223372036854775807 then ((digest_Hash.f k (x1 ++ x2)).bind fun t211 => ((digest_Hash.f k x1).bind fun t212 => ((corebankref08_Extend.f k t212 x2).bind fun t213 => (if t211 = t213 then ((digest_Chain.f k x0 (x1 ++ x2)).bind fun t214 => ((digest_Chain.f k x0 x1).bind fun t215 => ((corebankref08_Extend.f k t215 x2).bind fun t216 => (if t214 = t216 then ((corebanklaw08_live.f k).bind fun t217 => (some t217)) else (some false))))) else (some false))))) else (none))
end
def corebanklaw08_DigestHashes.f (k : Nat) (a0 : Int) (a1 : ByteArray) (a2 : ByteArray) : Option (Bool) := if (a1.size : Int) > 2000 then (corebanklaw08_DigestHashes.j0 k a0 a1 a2 true) else (corebanklaw08_DigestHashes.j0 k a0 a1 a2 (decide ((a2.size : Int) > 2000)))
theorem corebanklaw08_DigestHashes.mono_l : ∀ k, (∀ y0 y1 y2 y3, LeO (corebanklaw08_DigestHashes.j0 k y0 y1 y2 y3) (corebanklaw08_DigestHashes.j0 (k + 1) y0 y1 y2 y3)) ∧ (∀ y0 y1 y2 y3, LeO (corebanklaw08_DigestHashes.j1 k y0 y1 y2 y3) (corebanklaw08_DigestHashes.j1 (k + 1) y0 y1 y2 y3))
  | 0 => ⟨fun _ _ _ _ r h => by simp [corebanklaw08_DigestHashes.j0] at h, fun _ _ _ _ r h => by simp [corebanklaw08_DigestHashes.j1] at h⟩
  | k + 1 => by
    obtain ⟨ih0, ih1⟩ := corebanklaw08_DigestHashes.mono_l k
    refine ⟨?_, ?_⟩
    · intro y0 y1 y2 y3
      unfold corebanklaw08_DigestHashes.j0
      repeat' first
      | (with_reducible exact ih0 _ _ _ _)
      | (with_reducible exact ih1 _ _ _ _)
      | (with_reducible exact corebanklaw08_live.mono _)
      | (with_reducible exact corebankref08_Chain.mono _ _ _)
      | (with_reducible exact corebankref08_Extend.mono _ _ _)
      | (with_reducible exact corebankref08_Hash.mono _ _)
      | (with_reducible exact corebankref08_Pair.mono _ _ _)
      | (with_reducible exact digest_Chain.mono _ _ _)
      | (with_reducible exact digest_Hash.mono _ _)
      | (with_reducible exact digest_Pair.mono _ _ _)
      | (with_reducible exact LeO.refl _)
      | (with_reducible exact LeO.none _)
      | (with_reducible refine LeO.ite ?_ ?_)
      | (with_reducible refine LeO.bind ?_ (fun _ => ?_))
      | exact ih0 _ _ _ _
      | exact ih1 _ _ _ _
      | exact corebanklaw08_live.mono _
      | exact corebankref08_Chain.mono _ _ _
      | exact corebankref08_Extend.mono _ _ _
      | exact corebankref08_Hash.mono _ _
      | exact corebankref08_Pair.mono _ _ _
      | exact digest_Chain.mono _ _ _
      | exact digest_Hash.mono _ _
      | exact digest_Pair.mono _ _ _
      | exact LeO.none _
      | refine LeO.ite ?_ ?_
      | refine LeO.bind ?_ (fun _ => ?_)
    · intro y0 y1 y2 y3
      unfold corebanklaw08_DigestHashes.j1
      repeat' first
      | (with_reducible exact ih0 _ _ _ _)
      | (with_reducible exact ih1 _ _ _ _)
      | (with_reducible exact corebanklaw08_live.mono _)
      | (with_reducible exact corebankref08_Chain.mono _ _ _)
      | (with_reducible exact corebankref08_Extend.mono _ _ _)
      | (with_reducible exact corebankref08_Hash.mono _ _)
      | (with_reducible exact corebankref08_Pair.mono _ _ _)
      | (with_reducible exact digest_Chain.mono _ _ _)
      | (with_reducible exact digest_Hash.mono _ _)
      | (with_reducible exact digest_Pair.mono _ _ _)
      | (with_reducible exact LeO.refl _)
      | (with_reducible exact LeO.none _)
      | (with_reducible refine LeO.ite ?_ ?_)
      | (with_reducible refine LeO.bind ?_ (fun _ => ?_))
      | exact ih0 _ _ _ _
      | exact ih1 _ _ _ _
      | exact corebanklaw08_live.mono _
      | exact corebankref08_Chain.mono _ _ _
      | exact corebankref08_Extend.mono _ _ _
      | exact corebankref08_Hash.mono _ _
      | exact corebankref08_Pair.mono _ _ _
      | exact digest_Chain.mono _ _ _
      | exact digest_Hash.mono _ _
      | exact digest_Pair.mono _ _ _
      | exact LeO.none _
      | refine LeO.ite ?_ ?_
      | refine LeO.bind ?_ (fun _ => ?_)
theorem corebanklaw08_DigestHashes.mono : ∀ a0 a1 a2 k, LeO (corebanklaw08_DigestHashes.f k a0 a1 a2) (corebanklaw08_DigestHashes.f (k + 1) a0 a1 a2) := by
  intro a0 a1 a2 k
  obtain ⟨ih0, ih1⟩ := corebanklaw08_DigestHashes.mono_l k
  unfold corebanklaw08_DigestHashes.f
  repeat' first
      | (with_reducible exact ih0 _ _ _ _)
      | (with_reducible exact ih1 _ _ _ _)
      | (with_reducible exact corebanklaw08_live.mono _)
      | (with_reducible exact corebankref08_Chain.mono _ _ _)
      | (with_reducible exact corebankref08_Extend.mono _ _ _)
      | (with_reducible exact corebankref08_Hash.mono _ _)
      | (with_reducible exact corebankref08_Pair.mono _ _ _)
      | (with_reducible exact digest_Chain.mono _ _ _)
      | (with_reducible exact digest_Hash.mono _ _)
      | (with_reducible exact digest_Pair.mono _ _ _)
      | (with_reducible exact LeO.refl _)
      | (with_reducible exact LeO.none _)
      | (with_reducible refine LeO.ite ?_ ?_)
      | (with_reducible refine LeO.bind ?_ (fun _ => ?_))
      | exact ih0 _ _ _ _
      | exact ih1 _ _ _ _
      | exact corebanklaw08_live.mono _
      | exact corebankref08_Chain.mono _ _ _
      | exact corebankref08_Extend.mono _ _ _
      | exact corebankref08_Hash.mono _ _
      | exact corebankref08_Pair.mono _ _ _
      | exact digest_Chain.mono _ _ _
      | exact digest_Hash.mono _ _
      | exact digest_Pair.mono _ _ _
      | exact LeO.none _
      | refine LeO.ite ?_ ?_
      | refine LeO.bind ?_ (fun _ => ?_)
set_option maxHeartbeats 8000000 in
set_option maxRecDepth 100000 in
theorem corebanklaw08_DigestHashes.calls (k : Nat) (a0 : Int) (a1 : ByteArray) (a2 : ByteArray) (r : Bool) (w : World) (HTab_ : TabW w) (h : corebanklaw08_DigestHashes.f k a0 a1 a2 = some r) :
    Calls Tryd.prog 8 #[.int .u64 a0, .string a1, .string a2] w fun e w' => e = .returned (.bool r) ∧ Below w.heap.size w w' := by
  have HTab := Aside0.mk HTab_
  clear HTab_
  have HB := Aside0.mk (Below.refl w.heap.size w)
  have H : (if (a1.size : Int) > 2000 then (corebanklaw08_DigestHashes.j0 k a0 a1 a2 true) else (corebanklaw08_DigestHashes.j0 k a0 a1 a2 (decide ((a2.size : Int) > 2000)))) = some r := h
  clear h
  have HC4 := Aside0.mk H
  clear H
  go_enter Tryd.func8, Tryd.ntmps8
  go_upto_region 1 with (fail)
  go_cut [14] (fun v14 wc => ∃ (kq : Nat) (x14_3 : Bool), v14 = .bool x14_3 ∧ Aside0 (corebanklaw08_DigestHashes.j0 kq a0 a1 a2 x14_3 = some r) ∧ Aside0 (kq ≤ k) ∧ Aside0 (Below w.heap.size w wc))
  case first =>
    have H := HC4.out
    clear HC4
    by_cases c5 : (a1.size : Int) > 2000
    · rw [if_pos c5] at H
      have c5b0 : decide (2000 < (a1.size : Int)) = true := decide_eq_true c5
      have c5b1 : decide (2000 < a1.size) = true := decide_eq_true (by omega)
      clear c5
      (first | rw [c5b0] | (simp only [i64_w, i32_w]; rw [c5b0]) | skip)
      have H' := Aside0.mk H
      clear H
      go_wp2
      go_meet
      case rel => exact ⟨_, (true), (by first | rfl | (simp; done) | (simp [*]; done)), H', ⟨by first | omega | exact Nat.le_refl _⟩, ⟨by repeat (first | (with_reducible first | exact HB.out | apply below_alloc | apply pw_below_drewN | apply below_drew1) | exact HB.out)⟩⟩
    · rw [if_neg c5] at H
      have c5b0 : decide (2000 < (a1.size : Int)) = false := decide_eq_false c5
      have c5b1 : decide (2000 < a1.size) = false := decide_eq_false (by omega)
      clear c5
      (first | rw [c5b0] | (simp only [i64_w, i32_w]; rw [c5b0]) | skip)
      have H' := Aside0.mk H
      clear H
      go_wp2
      go_meet
      case rel => exact ⟨_, (decide ((a2.size : Int) > 2000)), (by first | rfl | (simp; done) | (simp [*]; done)), H', ⟨by first | omega | exact Nat.le_refl _⟩, ⟨by repeat (first | (with_reducible first | exact HB.out | apply below_alloc | apply pw_below_drewN | apply below_drew1) | exact HB.out)⟩⟩
  case rest =>
    clear HC4
    try clear p2
    try clear c5
    try clear c5b0
    try clear c5b1
    obtain ⟨kq, x14_3, rfl, HA, HJ3, HB⟩ := hcut
    cases kq with
    | zero => exact absurd HA.out (by simp [corebanklaw08_DigestHashes.j0])
    | succ kj3 =>
      have H := HA.out
      clear HA
      simp only [corebanklaw08_DigestHashes.j0] at H
      by_cases c6 : x14_3 = true
      · subst c6
        have H1 : ((corebanklaw08_live.f kj3).bind fun t202 => (some t202)) = some r := by rw [if_pos rfl] at H; exact H
        clear H
        have H := H1
        clear H1
        replace H := Option.bind_eq_some_iff.mp H
        obtain ⟨t202, A70, H⟩ := H
        replace H : (some t202) = some r := H
        have A7 := Aside0.mk A70
        clear A70
        obtain rfl := Option.some.inj H
        go_wp2_with (first | ((with_reducible refine gate_callee (f := 9) rfl ?_); refine goesL_ (some 15) rfl rfl Tryd.func9 (by kernel_rfl) rfl #[] rfl (by (try simp only [List.map_toArray, List.map_cons, List.map_nil]); first | done | rfl | (simp only [List.length_drop, List.length_take]; rfl)) ?_; (with_reducible refine (corebanklaw08_live.calls kj3  t202 _ ?side1 A7.out).mono ?_); (case side1 => refine TabW.below HTab.out ?_; repeat (first | (with_reducible first | exact HB.out | apply below_alloc | apply pw_below_drewN | apply below_drew1) | exact HB.out)); rintro e w8 ⟨rfl, hb⟩; refine ⟨_, rfl, ?_⟩; have n0_ := Aside0.mk (below_step (by repeat (first | (with_reducible first | exact HB.out | apply below_alloc | apply pw_below_drewN | apply below_drew1) | exact HB.out)) hb); clear HB; have HB := n0_; clear n0_; (try clear hb); (try clear hb2); (try clear hk); (try clear hi)))
        go_ret
        exact ⟨by first | rfl | (simp [errW_none, errW_some] <;> rfl) | (simp [*, errW_none, errW_some] <;> rfl), by repeat (first | (with_reducible first | exact HB.out | apply below_alloc | apply pw_below_drewN | apply below_drew1) | exact HB.out)⟩
      · replace c6 := Bool.eq_false_iff.mpr c6
        subst c6
        have H1 : ((digest_Hash.f kj3 a1).bind fun t203 => ((corebankref08_Hash.f kj3 a1).bind fun t204 => (if t203 = t204 then ((digest_Chain.f kj3 a0 a1).bind fun t205 => ((corebankref08_Chain.f kj3 a0 a1).bind fun t206 => (if t205 = t206 then ((digest_Hash.f kj3 a2).bind fun t207 => ((digest_Pair.f kj3 a0 t207).bind fun t208 => ((corebankref08_Hash.f kj3 a2).bind fun t209 => ((corebankref08_Pair.f kj3 a0 t209).bind fun t210 => (corebanklaw08_DigestHashes.j1 kj3 a0 a1 a2 (t208 != t210)))))) else (corebanklaw08_DigestHashes.j1 kj3 a0 a1 a2 true)))) else (corebanklaw08_DigestHashes.j1 kj3 a0 a1 a2 true)))) = some r := by rw [if_neg (show ¬ (false = true) by decide)] at H; exact H
        clear H
        have H := H1
        clear H1
        have HC9 := Aside0.mk H
        clear H
        go_upto_region 3 with (fail)
        go_cut [40] (fun v40 wc => ∃ (kq : Nat) (x40_8 : Bool), v40 = .bool x40_8 ∧ Aside0 (corebanklaw08_DigestHashes.j1 kq a0 a1 a2 x40_8 = some r) ∧ Aside0 (kq ≤ kj3) ∧ Aside0 (Below w.heap.size w wc))
        case first =>
          have H := HC9.out
          clear HC9
          replace H := Option.bind_eq_some_iff.mp H
          obtain ⟨t203, A100, H⟩ := H
          replace H : ((corebankref08_Hash.f kj3 a1).bind fun t204 => (if t203 = t204 then ((digest_Chain.f kj3 a0 a1).bind fun t205 => ((corebankref08_Chain.f kj3 a0 a1).bind fun t206 => (if t205 = t206 then ((digest_Hash.f kj3 a2).bind fun t207 => ((digest_Pair.f kj3 a0 t207).bind fun t208 => ((corebankref08_Hash.f kj3 a2).bind fun t209 => ((corebankref08_Pair.f kj3 a0 t209).bind fun t210 => (corebanklaw08_DigestHashes.j1 kj3 a0 a1 a2 (t208 != t210)))))) else (corebanklaw08_DigestHashes.j1 kj3 a0 a1 a2 true)))) else (corebanklaw08_DigestHashes.j1 kj3 a0 a1 a2 true))) = some r := H
          have A10 := Aside0.mk A100
          clear A100
          replace H := Option.bind_eq_some_iff.mp H
          obtain ⟨t204, A110, H⟩ := H
          replace H : (if t203 = t204 then ((digest_Chain.f kj3 a0 a1).bind fun t205 => ((corebankref08_Chain.f kj3 a0 a1).bind fun t206 => (if t205 = t206 then ((digest_Hash.f kj3 a2).bind fun t207 => ((digest_Pair.f kj3 a0 t207).bind fun t208 => ((corebankref08_Hash.f kj3 a2).bind fun t209 => ((corebankref08_Pair.f kj3 a0 t209).bind fun t210 => (corebanklaw08_DigestHashes.j1 kj3 a0 a1 a2 (t208 != t210)))))) else (corebanklaw08_DigestHashes.j1 kj3 a0 a1 a2 true)))) else (corebanklaw08_DigestHashes.j1 kj3 a0 a1 a2 true)) = some r := H
          have A11 := Aside0.mk A110
          clear A110
          by_cases c12 : t203 = t204
          · rw [if_pos c12] at H
            have c12b0 : (t203 == t204) = true := beq_iff_eq.mpr c12
            have c12b1 : (t203 != t204) = false := bne_eq_false_iff_eq.mpr c12
            clear c12
            (first | rw [c12b0] | (simp only [i64_w, i32_w]; rw [c12b0]) | skip)
            replace H := Option.bind_eq_some_iff.mp H
            obtain ⟨t205, A130, H⟩ := H
            replace H : ((corebankref08_Chain.f kj3 a0 a1).bind fun t206 => (if t205 = t206 then ((digest_Hash.f kj3 a2).bind fun t207 => ((digest_Pair.f kj3 a0 t207).bind fun t208 => ((corebankref08_Hash.f kj3 a2).bind fun t209 => ((corebankref08_Pair.f kj3 a0 t209).bind fun t210 => (corebanklaw08_DigestHashes.j1 kj3 a0 a1 a2 (t208 != t210)))))) else (corebanklaw08_DigestHashes.j1 kj3 a0 a1 a2 true))) = some r := H
            have A13 := Aside0.mk A130
            clear A130
            replace H := Option.bind_eq_some_iff.mp H
            obtain ⟨t206, A140, H⟩ := H
            replace H : (if t205 = t206 then ((digest_Hash.f kj3 a2).bind fun t207 => ((digest_Pair.f kj3 a0 t207).bind fun t208 => ((corebankref08_Hash.f kj3 a2).bind fun t209 => ((corebankref08_Pair.f kj3 a0 t209).bind fun t210 => (corebanklaw08_DigestHashes.j1 kj3 a0 a1 a2 (t208 != t210)))))) else (corebanklaw08_DigestHashes.j1 kj3 a0 a1 a2 true)) = some r := H
            have A14 := Aside0.mk A140
            clear A140
            by_cases c15 : t205 = t206
            · rw [if_pos c15] at H
              have c15b0 : (t205 == t206) = true := beq_iff_eq.mpr c15
              have c15b1 : (t205 != t206) = false := bne_eq_false_iff_eq.mpr c15
              clear c15
              replace H := Option.bind_eq_some_iff.mp H
              obtain ⟨t207, A160, H⟩ := H
              replace H : ((digest_Pair.f kj3 a0 t207).bind fun t208 => ((corebankref08_Hash.f kj3 a2).bind fun t209 => ((corebankref08_Pair.f kj3 a0 t209).bind fun t210 => (corebanklaw08_DigestHashes.j1 kj3 a0 a1 a2 (t208 != t210))))) = some r := H
              have A16 := Aside0.mk A160
              clear A160
              replace H := Option.bind_eq_some_iff.mp H
              obtain ⟨t208, A170, H⟩ := H
              replace H : ((corebankref08_Hash.f kj3 a2).bind fun t209 => ((corebankref08_Pair.f kj3 a0 t209).bind fun t210 => (corebanklaw08_DigestHashes.j1 kj3 a0 a1 a2 (t208 != t210)))) = some r := H
              have A17 := Aside0.mk A170
              clear A170
              replace H := Option.bind_eq_some_iff.mp H
              obtain ⟨t209, A180, H⟩ := H
              replace H : ((corebankref08_Pair.f kj3 a0 t209).bind fun t210 => (corebanklaw08_DigestHashes.j1 kj3 a0 a1 a2 (t208 != t210))) = some r := H
              have A18 := Aside0.mk A180
              clear A180
              replace H := Option.bind_eq_some_iff.mp H
              obtain ⟨t210, A190, H⟩ := H
              replace H : (corebanklaw08_DigestHashes.j1 kj3 a0 a1 a2 (t208 != t210)) = some r := H
              have A19 := Aside0.mk A190
              clear A190
              have H' := Aside0.mk H
              clear H
              go_wp2_with (first | ((with_reducible refine gate_callee (f := 22) rfl ?_); refine goesL_ (some 17) rfl rfl Tryd.func22 (by kernel_rfl) rfl #[.string a1] rfl (by (try simp only [List.map_toArray, List.map_cons, List.map_nil]); first | done | rfl | (simp only [List.length_drop, List.length_take]; rfl)) ?_; (with_reducible refine (digest_Hash.calls kj3 a1 t203 _ A10.out).mono ?_); rintro e w' ⟨rfl, ⟨nd, rfl⟩⟩; refine ⟨_, rfl, ?_⟩) | ((with_reducible refine gate_callee (f := 23) rfl ?_); refine goesL_ (some 19) rfl rfl Tryd.func23 (by kernel_rfl) rfl #[.string a1] rfl (by (try simp only [List.map_toArray, List.map_cons, List.map_nil]); first | done | rfl | (simp only [List.length_drop, List.length_take]; rfl)) ?_; (with_reducible refine (corebankref08_Hash.calls kj3 a1 t204 _ A11.out).mono ?_); rintro e w' ⟨rfl, ⟨nd, rfl⟩⟩; refine ⟨_, rfl, ?_⟩) | (go_at_call 24; (with_reducible refine (digest_Chain.calls kj3 a0 a1 t205 _ A13.out).mono ?_); rintro e w' ⟨rfl, ⟨nd, rfl⟩⟩) | (go_at_call 25; (with_reducible refine (corebankref08_Chain.calls kj3 a0 a1 t206 _ A14.out).mono ?_); rintro e w20 ⟨rfl, hb⟩; have n0_ := Aside0.mk (below_step (by repeat (first | (with_reducible first | exact HB.out | apply below_alloc | apply pw_below_drewN | apply below_drew1) | exact HB.out)) hb); clear HB; have HB := n0_; clear n0_; (try clear hb); (try clear hb2); (try clear hk); (try clear hi)) | (go_at_call 22; (with_reducible refine (digest_Hash.calls kj3 a2 t207 _ A16.out).mono ?_); rintro e w' ⟨rfl, ⟨nd, rfl⟩⟩) | (go_at_call 26; (with_reducible refine (digest_Pair.calls kj3 a0 t207 t208 _ A17.out).mono ?_); rintro e w' ⟨rfl, ⟨nd, rfl⟩⟩) | (go_at_call 23; (with_reducible refine (corebankref08_Hash.calls kj3 a2 t209 _ A18.out).mono ?_); rintro e w' ⟨rfl, ⟨nd, rfl⟩⟩) | (go_at_call 27; (with_reducible refine (corebankref08_Pair.calls kj3 a0 t209 t210 _ A19.out).mono ?_); rintro e w21 ⟨rfl, hb⟩; have n0_ := Aside0.mk (below_step (by repeat (first | (with_reducible first | exact HB.out | apply below_alloc | apply pw_below_drewN | apply below_drew1) | exact HB.out)) hb); clear HB; have HB := n0_; clear n0_; (try clear hb); (try clear hb2); (try clear hk); (try clear hi)))
              go_meet
              case rel => exact ⟨_, ((t208 != t210)), (by first | rfl | (simp; done) | (simp [*]; done)), H', ⟨by have := HJ3.out; first | omega | exact Nat.le_refl _⟩, ⟨by repeat (first | (with_reducible first | exact HB.out | apply below_alloc | apply pw_below_drewN | apply below_drew1) | exact HB.out)⟩⟩
            · rw [if_neg c15] at H
              have c15b0 : (t205 == t206) = false := beq_eq_false_iff_ne.mpr c15
              have c15b1 : (t205 != t206) = true := bne_iff_ne.mpr c15
              have H' := Aside0.mk H
              clear H
              go_wp2_with (first | ((with_reducible refine gate_callee (f := 22) rfl ?_); refine goesL_ (some 17) rfl rfl Tryd.func22 (by kernel_rfl) rfl #[.string a1] rfl (by (try simp only [List.map_toArray, List.map_cons, List.map_nil]); first | done | rfl | (simp only [List.length_drop, List.length_take]; rfl)) ?_; (with_reducible refine (digest_Hash.calls kj3 a1 t203 _ A10.out).mono ?_); rintro e w' ⟨rfl, ⟨nd, rfl⟩⟩; refine ⟨_, rfl, ?_⟩) | ((with_reducible refine gate_callee (f := 23) rfl ?_); refine goesL_ (some 19) rfl rfl Tryd.func23 (by kernel_rfl) rfl #[.string a1] rfl (by (try simp only [List.map_toArray, List.map_cons, List.map_nil]); first | done | rfl | (simp only [List.length_drop, List.length_take]; rfl)) ?_; (with_reducible refine (corebankref08_Hash.calls kj3 a1 t204 _ A11.out).mono ?_); rintro e w' ⟨rfl, ⟨nd, rfl⟩⟩; refine ⟨_, rfl, ?_⟩) | (go_at_call 24; (with_reducible refine (digest_Chain.calls kj3 a0 a1 t205 _ A13.out).mono ?_); rintro e w' ⟨rfl, ⟨nd, rfl⟩⟩) | (go_at_call 25; (with_reducible refine (corebankref08_Chain.calls kj3 a0 a1 t206 _ A14.out).mono ?_); rintro e w22 ⟨rfl, hb⟩; have n0_ := Aside0.mk (below_step (by repeat (first | (with_reducible first | exact HB.out | apply below_alloc | apply pw_below_drewN | apply below_drew1) | exact HB.out)) hb); clear HB; have HB := n0_; clear n0_; (try clear hb); (try clear hb2); (try clear hk); (try clear hi)))
              go_meet
              case rel => exact ⟨_, (true), (by first | rfl | (simp; done) | (simp [*]; done)), H', ⟨by have := HJ3.out; first | omega | exact Nat.le_refl _⟩, ⟨by repeat (first | (with_reducible first | exact HB.out | apply below_alloc | apply pw_below_drewN | apply below_drew1) | exact HB.out)⟩⟩
          · rw [if_neg c12] at H
            have c12b0 : (t203 == t204) = false := beq_eq_false_iff_ne.mpr c12
            have c12b1 : (t203 != t204) = true := bne_iff_ne.mpr c12
            (first | rw [c12b0] | (simp only [i64_w, i32_w]; rw [c12b0]) | skip)
            have H' := Aside0.mk H
            clear H
            go_wp2_with (first | ((with_reducible refine gate_callee (f := 22) rfl ?_); refine goesL_ (some 17) rfl rfl Tryd.func22 (by kernel_rfl) rfl #[.string a1] rfl (by (try simp only [List.map_toArray, List.map_cons, List.map_nil]); first | done | rfl | (simp only [List.length_drop, List.length_take]; rfl)) ?_; (with_reducible refine (digest_Hash.calls kj3 a1 t203 _ A10.out).mono ?_); rintro e w' ⟨rfl, ⟨nd, rfl⟩⟩; refine ⟨_, rfl, ?_⟩) | ((with_reducible refine gate_callee (f := 23) rfl ?_); refine goesL_ (some 19) rfl rfl Tryd.func23 (by kernel_rfl) rfl #[.string a1] rfl (by (try simp only [List.map_toArray, List.map_cons, List.map_nil]); first | done | rfl | (simp only [List.length_drop, List.length_take]; rfl)) ?_; (with_reducible refine (corebankref08_Hash.calls kj3 a1 t204 _ A11.out).mono ?_); rintro e w' ⟨rfl, ⟨nd, rfl⟩⟩; refine ⟨_, rfl, ?_⟩))
            go_meet
            case rel => exact ⟨_, (true), (by first | rfl | (simp; done) | (simp [*]; done)), H', ⟨by have := HJ3.out; first | omega | exact Nat.le_refl _⟩, ⟨by repeat (first | (with_reducible first | exact HB.out | apply below_alloc | apply pw_below_drewN | apply below_drew1) | exact HB.out)⟩⟩
        case rest =>
          clear HC9
          try clear c1
          try clear c2
          try clear p2
          try clear c5
          try clear c5b0
          try clear c5b1
          try clear c6
          try clear c8
          try clear c9
          try clear c12
          try clear c12b0
          try clear c12b1
          try clear c15
          try clear c15b0
          try clear c15b1
          try clear c22
          try clear p2
          obtain ⟨kq, x40_8, rfl, HA, HJ8, HB⟩ := hcut
          cases kq with
          | zero => exact absurd HA.out (by simp [corebanklaw08_DigestHashes.j1])
          | succ kj8 =>
            have H := HA.out
            clear HA
            simp only [corebanklaw08_DigestHashes.j1] at H
            by_cases c23 : x40_8 = true
            · subst c23
              have H1 : (some false) = some r := by rw [if_pos rfl] at H; exact H
              clear H
              have H := H1
              clear H1
              obtain rfl := Option.some.inj H
              go_wp2
              go_ret
              exact ⟨by first | rfl | (simp [errW_none, errW_some] <;> rfl) | (simp [*, errW_none, errW_some] <;> rfl), by repeat (first | (with_reducible first | exact HB.out | apply below_alloc | apply pw_below_drewN | apply below_drew1) | exact HB.out)⟩
            · replace c23 := Bool.eq_false_iff.mpr c23
              subst c23
              have H1 : (if a1.size + a2.size ≤ 9223372036854775807 then ((digest_Hash.f kj8 (a1 ++ a2)).bind fun t211 => ((digest_Hash.f kj8 a1).bind fun t212 => ((corebankref08_Extend.f kj8 t212 a2).bind fun t213 => (if t211 = t213 then ((digest_Chain.f kj8 a0 (a1 ++ a2)).bind fun t214 => ((digest_Chain.f kj8 a0 a1).bind fun t215 => ((corebankref08_Extend.f kj8 t215 a2).bind fun t216 => (if t214 = t216 then ((corebanklaw08_live.f kj8).bind fun t217 => (some t217)) else (some false))))) else (some false))))) else (none)) = some r := by rw [if_neg (show ¬ (false = true) by decide)] at H; exact H
              clear H
              have H := H1
              clear H1
              by_cases c24 : a1.size + a2.size ≤ 9223372036854775807
              · rw [if_pos c24] at H
                have c24b0 := eq_true c24
                have c24b1 : decide (a1.size + a2.size ≤ 9223372036854775807) = true := decide_eq_true c24
                try have c24b2 : (9223372036854775807 < a1.size + a2.size) = False := eq_false (Nat.not_lt.2 c24)
                replace H := Option.bind_eq_some_iff.mp H
                obtain ⟨t211, A250, H⟩ := H
                replace H : ((digest_Hash.f kj8 a1).bind fun t212 => ((corebankref08_Extend.f kj8 t212 a2).bind fun t213 => (if t211 = t213 then ((digest_Chain.f kj8 a0 (a1 ++ a2)).bind fun t214 => ((digest_Chain.f kj8 a0 a1).bind fun t215 => ((corebankref08_Extend.f kj8 t215 a2).bind fun t216 => (if t214 = t216 then ((corebanklaw08_live.f kj8).bind fun t217 => (some t217)) else (some false))))) else (some false)))) = some r := H
                have A25 := Aside0.mk A250
                clear A250
                replace H := Option.bind_eq_some_iff.mp H
                obtain ⟨t212, A260, H⟩ := H
                replace H : ((corebankref08_Extend.f kj8 t212 a2).bind fun t213 => (if t211 = t213 then ((digest_Chain.f kj8 a0 (a1 ++ a2)).bind fun t214 => ((digest_Chain.f kj8 a0 a1).bind fun t215 => ((corebankref08_Extend.f kj8 t215 a2).bind fun t216 => (if t214 = t216 then ((corebanklaw08_live.f kj8).bind fun t217 => (some t217)) else (some false))))) else (some false))) = some r := H
                have A26 := Aside0.mk A260
                clear A260
                replace H := Option.bind_eq_some_iff.mp H
                obtain ⟨t213, A270, H⟩ := H
                replace H : (if t211 = t213 then ((digest_Chain.f kj8 a0 (a1 ++ a2)).bind fun t214 => ((digest_Chain.f kj8 a0 a1).bind fun t215 => ((corebankref08_Extend.f kj8 t215 a2).bind fun t216 => (if t214 = t216 then ((corebanklaw08_live.f kj8).bind fun t217 => (some t217)) else (some false))))) else (some false)) = some r := H
                have A27 := Aside0.mk A270
                clear A270
                by_cases c28 : t211 = t213
                · rw [if_pos c28] at H
                  have c28b0 : (t211 == t213) = true := beq_iff_eq.mpr c28
                  have c28b1 : (t211 != t213) = false := bne_eq_false_iff_eq.mpr c28
                  clear c28
                  replace H := Option.bind_eq_some_iff.mp H
                  obtain ⟨t214, A290, H⟩ := H
                  replace H : ((digest_Chain.f kj8 a0 a1).bind fun t215 => ((corebankref08_Extend.f kj8 t215 a2).bind fun t216 => (if t214 = t216 then ((corebanklaw08_live.f kj8).bind fun t217 => (some t217)) else (some false)))) = some r := H
                  have A29 := Aside0.mk A290
                  clear A290
                  replace H := Option.bind_eq_some_iff.mp H
                  obtain ⟨t215, A300, H⟩ := H
                  replace H : ((corebankref08_Extend.f kj8 t215 a2).bind fun t216 => (if t214 = t216 then ((corebanklaw08_live.f kj8).bind fun t217 => (some t217)) else (some false))) = some r := H
                  have A30 := Aside0.mk A300
                  clear A300
                  replace H := Option.bind_eq_some_iff.mp H
                  obtain ⟨t216, A310, H⟩ := H
                  replace H : (if t214 = t216 then ((corebanklaw08_live.f kj8).bind fun t217 => (some t217)) else (some false)) = some r := H
                  have A31 := Aside0.mk A310
                  clear A310
                  by_cases c32 : t214 = t216
                  · rw [if_pos c32] at H
                    have c32b0 : (t214 == t216) = true := beq_iff_eq.mpr c32
                    have c32b1 : (t214 != t216) = false := bne_eq_false_iff_eq.mpr c32
                    clear c32
                    replace H := Option.bind_eq_some_iff.mp H
                    obtain ⟨t217, A330, H⟩ := H
                    replace H : (some t217) = some r := H
                    have A33 := Aside0.mk A330
                    clear A330
                    obtain rfl := Option.some.inj H
                    go_wp2_with (first | ((with_reducible refine gate_callee (f := 22) rfl ?_); refine goesL_ (some 44) rfl rfl Tryd.func22 (by kernel_rfl) rfl #[.string (a1 ++ a2)] rfl (by (try simp only [List.map_toArray, List.map_cons, List.map_nil]); first | done | rfl | (simp only [List.length_drop, List.length_take]; rfl)) ?_; (with_reducible refine (digest_Hash.calls kj8 (a1 ++ a2) t211 _ A25.out).mono ?_); rintro e w' ⟨rfl, ⟨nd, rfl⟩⟩; refine ⟨_, rfl, ?_⟩) | ((with_reducible refine gate_callee (f := 22) rfl ?_); refine goesL_ (some 46) rfl rfl Tryd.func22 (by kernel_rfl) rfl #[.string a1] rfl (by (try simp only [List.map_toArray, List.map_cons, List.map_nil]); first | done | rfl | (simp only [List.length_drop, List.length_take]; rfl)) ?_; (with_reducible refine (digest_Hash.calls kj8 a1 t212 _ A26.out).mono ?_); rintro e w' ⟨rfl, ⟨nd, rfl⟩⟩; refine ⟨_, rfl, ?_⟩) | ((with_reducible refine gate_callee (f := 28) rfl ?_); refine goesL_ (some 48) rfl rfl Tryd.func28 (by kernel_rfl) rfl #[.int .u64 t212, .string a2] rfl (by (try simp only [List.map_toArray, List.map_cons, List.map_nil]); first | done | rfl | (simp only [List.length_drop, List.length_take]; rfl)) ?_; (with_reducible refine (corebankref08_Extend.calls kj8 t212 a2 t213 _ A27.out).mono ?_); rintro e w' ⟨rfl, ⟨nd, rfl⟩⟩; refine ⟨_, rfl, ?_⟩) | (go_at_call 24; (with_reducible refine (digest_Chain.calls kj8 a0 (a1 ++ a2) t214 _ A29.out).mono ?_); rintro e w' ⟨rfl, ⟨nd, rfl⟩⟩) | (go_at_call 24; (with_reducible refine (digest_Chain.calls kj8 a0 a1 t215 _ A30.out).mono ?_); rintro e w' ⟨rfl, ⟨nd, rfl⟩⟩) | (go_at_call 28; (with_reducible refine (corebankref08_Extend.calls kj8 t215 a2 t216 _ A31.out).mono ?_); rintro e w' ⟨rfl, ⟨nd, rfl⟩⟩) | (go_at_call 9; (with_reducible refine (corebanklaw08_live.calls kj8  t217 _ ?side1 A33.out).mono ?_); (case side1 => refine TabW.below HTab.out ?_; repeat (first | (with_reducible first | exact HB.out | apply below_alloc | apply pw_below_drewN | apply below_drew1) | exact HB.out)); rintro e w34 ⟨rfl, hb⟩; have n0_ := Aside0.mk (below_step (by repeat (first | (with_reducible first | exact HB.out | apply below_alloc | apply pw_below_drewN | apply below_drew1) | exact HB.out)) hb); clear HB; have HB := n0_; clear n0_; (try clear hb); (try clear hb2); (try clear hk); (try clear hi)))
                    go_ret
                    exact ⟨by first | rfl | (simp [errW_none, errW_some] <;> rfl) | (simp [*, errW_none, errW_some] <;> rfl), by repeat (first | (with_reducible first | exact HB.out | apply below_alloc | apply pw_below_drewN | apply below_drew1) | exact HB.out)⟩
                  · rw [if_neg c32] at H
                    have c32b0 : (t214 == t216) = false := beq_eq_false_iff_ne.mpr c32
                    have c32b1 : (t214 != t216) = true := bne_iff_ne.mpr c32
                    obtain rfl := Option.some.inj H
                    go_wp2_with (first | ((with_reducible refine gate_callee (f := 22) rfl ?_); refine goesL_ (some 44) rfl rfl Tryd.func22 (by kernel_rfl) rfl #[.string (a1 ++ a2)] rfl (by (try simp only [List.map_toArray, List.map_cons, List.map_nil]); first | done | rfl | (simp only [List.length_drop, List.length_take]; rfl)) ?_; (with_reducible refine (digest_Hash.calls kj8 (a1 ++ a2) t211 _ A25.out).mono ?_); rintro e w' ⟨rfl, ⟨nd, rfl⟩⟩; refine ⟨_, rfl, ?_⟩) | ((with_reducible refine gate_callee (f := 22) rfl ?_); refine goesL_ (some 46) rfl rfl Tryd.func22 (by kernel_rfl) rfl #[.string a1] rfl (by (try simp only [List.map_toArray, List.map_cons, List.map_nil]); first | done | rfl | (simp only [List.length_drop, List.length_take]; rfl)) ?_; (with_reducible refine (digest_Hash.calls kj8 a1 t212 _ A26.out).mono ?_); rintro e w' ⟨rfl, ⟨nd, rfl⟩⟩; refine ⟨_, rfl, ?_⟩) | ((with_reducible refine gate_callee (f := 28) rfl ?_); refine goesL_ (some 48) rfl rfl Tryd.func28 (by kernel_rfl) rfl #[.int .u64 t212, .string a2] rfl (by (try simp only [List.map_toArray, List.map_cons, List.map_nil]); first | done | rfl | (simp only [List.length_drop, List.length_take]; rfl)) ?_; (with_reducible refine (corebankref08_Extend.calls kj8 t212 a2 t213 _ A27.out).mono ?_); rintro e w' ⟨rfl, ⟨nd, rfl⟩⟩; refine ⟨_, rfl, ?_⟩) | (go_at_call 24; (with_reducible refine (digest_Chain.calls kj8 a0 (a1 ++ a2) t214 _ A29.out).mono ?_); rintro e w' ⟨rfl, ⟨nd, rfl⟩⟩) | (go_at_call 24; (with_reducible refine (digest_Chain.calls kj8 a0 a1 t215 _ A30.out).mono ?_); rintro e w' ⟨rfl, ⟨nd, rfl⟩⟩) | (go_at_call 28; (with_reducible refine (corebankref08_Extend.calls kj8 t215 a2 t216 _ A31.out).mono ?_); rintro e w' ⟨rfl, ⟨nd, rfl⟩⟩))
                    go_ret
                    exact ⟨by first | rfl | (simp [errW_none, errW_some] <;> rfl) | (simp [*, errW_none, errW_some] <;> rfl), by repeat (first | (with_reducible first | exact HB.out | apply below_alloc | apply pw_below_drewN | apply below_drew1) | exact HB.out)⟩
                · rw [if_neg c28] at H
                  have c28b0 : (t211 == t213) = false := beq_eq_false_iff_ne.mpr c28
                  have c28b1 : (t211 != t213) = true := bne_iff_ne.mpr c28
                  obtain rfl := Option.some.inj H
                  go_wp2_with (first | ((with_reducible refine gate_callee (f := 22) rfl ?_); refine goesL_ (some 44) rfl rfl Tryd.func22 (by kernel_rfl) rfl #[.string (a1 ++ a2)] rfl (by (try simp only [List.map_toArray, List.map_cons, List.map_nil]); first | done | rfl | (simp only [List.length_drop, List.length_take]; rfl)) ?_; (with_reducible refine (digest_Hash.calls kj8 (a1 ++ a2) t211 _ A25.out).mono ?_); rintro e w' ⟨rfl, ⟨nd, rfl⟩⟩; refine ⟨_, rfl, ?_⟩) | ((with_reducible refine gate_callee (f := 22) rfl ?_); refine goesL_ (some 46) rfl rfl Tryd.func22 (by kernel_rfl) rfl #[.string a1] rfl (by (try simp only [List.map_toArray, List.map_cons, List.map_nil]); first | done | rfl | (simp only [List.length_drop, List.length_take]; rfl)) ?_; (with_reducible refine (digest_Hash.calls kj8 a1 t212 _ A26.out).mono ?_); rintro e w' ⟨rfl, ⟨nd, rfl⟩⟩; refine ⟨_, rfl, ?_⟩) | ((with_reducible refine gate_callee (f := 28) rfl ?_); refine goesL_ (some 48) rfl rfl Tryd.func28 (by kernel_rfl) rfl #[.int .u64 t212, .string a2] rfl (by (try simp only [List.map_toArray, List.map_cons, List.map_nil]); first | done | rfl | (simp only [List.length_drop, List.length_take]; rfl)) ?_; (with_reducible refine (corebankref08_Extend.calls kj8 t212 a2 t213 _ A27.out).mono ?_); rintro e w' ⟨rfl, ⟨nd, rfl⟩⟩; refine ⟨_, rfl, ?_⟩))
                  go_ret
                  exact ⟨by first | rfl | (simp [errW_none, errW_some] <;> rfl) | (simp [*, errW_none, errW_some] <;> rfl), by repeat (first | (with_reducible first | exact HB.out | apply below_alloc | apply pw_below_drewN | apply below_drew1) | exact HB.out)⟩
              · rw [if_neg c24] at H
                exact absurd H (by simp)

end Go.Proofs.YtmloobkgnefgcaaDoor.QD
