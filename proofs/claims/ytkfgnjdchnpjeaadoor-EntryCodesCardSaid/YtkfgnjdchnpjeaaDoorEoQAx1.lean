/- QAx1: what the law EntryCodes asks of it. -/
import Derived.Test.YtkfgnjdchnpjeaaDoorEoQAx0
namespace Go.Proofs.YtkfgnjdchnpjeaaDoor.QA
open Go.RowKit Go.Proofs.YtkfgnjdchnpjeaaDoorW.PrintWords Go.Proofs.YtkfgnjdchnpjeaaDoorW.PrintLast Go.Proofs.YtkfgnjdchnpjeaaDoorW.PrintMore
attribute [local go_sem] max2_int min2_int max_two min_two max_three min_three max_four min_four   -- for this text's walks alone
set_option linter.unusedVariables false
set_option linter.unusedSimpArgs false
mutual
def wire_decimal.j0 : Nat → ByteArray → ByteArray → Bool → Option (Bool)
 | 0, _, _, _ => none
 | k + 1, x0, x3, x13 => if x13 = true then (if 1 ≤ (x3.size : Int) then (wire_decimal.j1 k x0 (x3.extract 1 x3.size)) else (none)) else (wire_decimal.j1 k x0 x3)
def wire_decimal.j1 : Nat → ByteArray → ByteArray → Option (Bool)
 | 0, _, _ => none
 | k + 1, x0, x3 => if x3.toList = ([] : List UInt8) then (wire_decimal.j2 k x3 true) else (if 0 < (x3.size : Int) then (if (bt x3 0) = 48 then (wire_decimal.j2 k x3 (decide ((x0.size : Int) > 1))) else (wire_decimal.j2 k x3 false)) else (none))
def wire_decimal.j2 : Nat → ByteArray → Bool → Option (Bool)
 | 0, _, _ => none
 | k + 1, x3, x27 => if x27 = true then (some false) else (wire_decimal.l0 k x3 (x3.size : Int) 0)
def wire_decimal.l0 : Nat → ByteArray → Int → Int → Option (Bool)
 | 0, _, _, _ => none
 | k + 1, x3, x29, x30 => if x30 < x29 then (if 0 ≤ x30 then (if x30 < (x3.size : Int) then (if (bt x3 x30) < 48 then (some false) else (if (bt x3 x30) > 57 then (some false) else (wire_decimal.l0 k x3 x29 (wrap64 (x30 + 1))))) else (none)) else (none)) else (some true)
end
def wire_decimal.f (k : Nat) (a0 : ByteArray) : Option (Bool) := if (a0.size : Int) > 0 then (if 0 < (a0.size : Int) then (wire_decimal.j0 k a0 a0 ((bt a0 0) == 45)) else (none)) else (wire_decimal.j0 k a0 a0 false)
set_option maxHeartbeats 8000000 in
set_option maxRecDepth 100000 in
theorem wire_decimal.calls (k : Nat) (a0 : ByteArray) (r : Bool) (w : World) (h : wire_decimal.f k a0 = some r) :
  Calls Tryd.prog 66 #[.string a0] w fun e w' => e = .returned (.bool r) ∧ Drawn0 w w' := by
 have H : (if (a0.size : Int) > 0 then (if 0 < (a0.size : Int) then (wire_decimal.j0 k a0 a0 ((bt a0 0) == 45)) else (none)) else (wire_decimal.j0 k a0 a0 false)) = some r := h
 clear h
 have HC2 := Aside0.mk H
 clear H
 go_enter Tryd.func66, Tryd.ntmps66
 go_upto_region 2 with (fail)
 go_cut [13] (fun v13 wc => ∃ (kq : Nat) (x13_1 : Bool), v13 = .bool x13_1 ∧ Aside0 (wire_decimal.j0 kq a0 a0 x13_1 = some r) ∧ Aside0 (kq ≤ k) ∧ Drawn0 w wc)
 case first =>
  have H := HC2.out
  clear HC2
  by_cases c3 : (a0.size : Int) > 0
  ·rw [if_pos c3] at H
   have c3b0 : decide (0 < (a0.size : Int)) = true := decide_eq_true c3
   have c3b1 : decide (0 < a0.size) = true := decide_eq_true (by omega)
   clear c3
   (first | rw [c3b0] | (simp only [i64_w, i32_w]; rw [c3b0]) | skip)
   by_cases c4 : 0 < (a0.size : Int)
   ·rw [if_pos c4] at H
    have c4b0 : decide (0 < (a0.size : Int)) = true := decide_eq_true c4
    have c4b1 : decide (0 < a0.size) = true := decide_eq_true (by omega)
    clear c4
    have H' := Aside0.mk H
    clear H
    have p5 : 0 ≤ (0 : Int) := (by omega)
    have q5 : 0 < a0.size := (by have : (0 : Int) < (a0.size : Int) := of_decide_eq_true (by first | (with_reducible assumption) | assumption); omega)
    have hx5 : ∀ h : 0 < a0.size, ((a0[0]'h).toNat : Int) = bt a0 0 := bt_at a0 0
    clear p5
    have qi5 : (0 < (a0.size : Int)) = True := eq_true (of_decide_eq_true (by first | (with_reducible assumption) | assumption))
    replace q5 := eq_true q5
    go_wp2
    go_meet
    case rel => exact ⟨_, (((bt a0 0) == 45)), (by first | rfl | (simp; done) | (simp [*]; done)), H', ⟨by first | omega | exact Nat.le_refl _⟩, by repeat (first | exact Drawn0.refl _ | apply Drawn0.step)⟩
   ·rw [if_neg c4] at H
    exact absurd H (by simp)
  ·rw [if_neg c3] at H
   have c3b0 : decide (0 < (a0.size : Int)) = false := decide_eq_false c3
   have c3b1 : decide (0 < a0.size) = false := decide_eq_false (by omega)
   clear c3
   (first | rw [c3b0] | (simp only [i64_w, i32_w]; rw [c3b0]) | skip)
   have H' := Aside0.mk H
   clear H
   go_wp2
   go_meet
   case rel => exact ⟨_, (false), (by first | rfl | (simp; done) | (simp [*]; done)), H', ⟨by first | omega | exact Nat.le_refl _⟩, by repeat (first | exact Drawn0.refl _ | apply Drawn0.step)⟩
 case rest =>
  clear HC2
  obtain ⟨kq, x13_1, rfl, HA, HJ1, ⟨mc1, rfl⟩⟩ := hcut
  cases kq with
  | zero => exact absurd HA.out (by simp [wire_decimal.j0])
  | succ kj1 =>
   have H := HA.out
   clear HA
   simp only [wire_decimal.j0] at H
   have HC6 := Aside0.mk H
   clear H
   go_upto_if 13 with (fail)
   go_cut [3] (fun v3 wc => ∃ (kq : Nat) (x3_5 : ByteArray), v3 = .string x3_5 ∧ Aside0 (wire_decimal.j1 kq a0 x3_5 = some r) ∧ Aside0 (kq ≤ kj1) ∧ Drawn0 w wc)
   case first =>
    have H := HC6.out
    clear HC6
    by_cases c7 : x13_1 = true
    ·subst c7
     have H1 : (if 1 ≤ (a0.size : Int) then (wire_decimal.j1 kj1 a0 (a0.extract 1 a0.size)) else (none)) = some r := by rw [if_pos rfl] at H; exact H
     clear H
     have H := H1
     clear H1
     by_cases c8 : 1 ≤ (a0.size : Int)
     ·rw [if_pos c8] at H
      have c8b0 := eq_true c8
      have c8b1 : decide (1 ≤ (a0.size : Int)) = true := decide_eq_true c8
      clear c8
      have H' := Aside0.mk H
      clear H
      go_wp2
      go_meet
      case rel => exact ⟨_, (a0.extract 1 a0.size), (by first | rfl | (simp; done) | (simp [*]; done)), H', ⟨by have := HJ1.out; first | omega | exact Nat.le_refl _⟩, by repeat (first | exact Drawn0.refl _ | apply Drawn0.step)⟩
     ·rw [if_neg c8] at H
      exact absurd H (by simp)
    ·replace c7 := Bool.eq_false_iff.mpr c7
     subst c7
     have H1 : (wire_decimal.j1 kj1 a0 a0) = some r := by rw [if_neg (show ¬ (false = true) by decide)] at H; exact H
     clear H
     have H := H1
     clear H1
     have H' := Aside0.mk H
     clear H
     go_wp2
     go_meet
     case rel => exact ⟨_, (a0), (by first | rfl | (simp; done) | (simp [*]; done)), H', ⟨by have := HJ1.out; first | omega | exact Nat.le_refl _⟩, by repeat (first | exact Drawn0.refl _ | apply Drawn0.step)⟩
   case rest =>
    clear HC6
    obtain ⟨kq, x3_5, rfl, HA, HJ5, ⟨mc5, rfl⟩⟩ := hcut
    cases kq with
    | zero => exact absurd HA.out (by simp [wire_decimal.j1])
    | succ kj5 =>
     have H := HA.out
     clear HA
     simp only [wire_decimal.j1] at H
     have HC9 := Aside0.mk H
     clear H
     go_upto_region 4 with (fail)
     go_cut [27] (fun v27 wc => ∃ (kq : Nat) (x27_8 : Bool), v27 = .bool x27_8 ∧ Aside0 (wire_decimal.j2 kq x3_5 x27_8 = some r) ∧ Aside0 (kq ≤ kj5) ∧ Drawn0 w wc)
     case first =>
      have H := HC9.out
      clear HC9
      by_cases c10 : x3_5.toList = ([] : List UInt8)
      ·rw [if_pos c10] at H
       have c10b0 : (x3_5.toList == ([] : List UInt8)) = true := beq_iff_eq.mpr c10
       have c10b1 : (x3_5.toList != ([] : List UInt8)) = false := bne_eq_false_iff_eq.mpr c10
       clear c10
       (first | rw [c10b0] | (simp only [i64_w, i32_w]; rw [c10b0]) | skip)
       have H' := Aside0.mk H
       clear H
       go_wp2
       go_meet
       case rel => exact ⟨_, (true), (by first | rfl | (simp; done) | (simp [*]; done)), H', ⟨by have := HJ1.out; have := HJ5.out; first | omega | exact Nat.le_refl _⟩, by repeat (first | exact Drawn0.refl _ | apply Drawn0.step)⟩
      ·rw [if_neg c10] at H
       have c10b0 : (x3_5.toList == ([] : List UInt8)) = false := beq_eq_false_iff_ne.mpr c10
       have c10b1 : (x3_5.toList != ([] : List UInt8)) = true := bne_iff_ne.mpr c10
       (first | rw [c10b0] | (simp only [i64_w, i32_w]; rw [c10b0]) | skip)
       by_cases c11 : 0 < (x3_5.size : Int)
       ·rw [if_pos c11] at H
        have c11b0 : decide (0 < (x3_5.size : Int)) = true := decide_eq_true c11
        have c11b1 : decide (0 < x3_5.size) = true := decide_eq_true (by omega)
        clear c11
        by_cases c13 : (bt x3_5 0) = 48
        ·rw [if_pos c13] at H
         have c13b0 : ((bt x3_5 0) == 48) = true := beq_iff_eq.mpr c13
         have c13b1 : ((bt x3_5 0) != 48) = false := bne_eq_false_iff_eq.mpr c13
         clear c13
         have H' := Aside0.mk H
         clear H
         have p12 : 0 ≤ (0 : Int) := (by omega)
         have q12 : 0 < x3_5.size := (by have : (0 : Int) < (x3_5.size : Int) := of_decide_eq_true (by first | (with_reducible assumption) | assumption); omega)
         have hx12 : ∀ h : 0 < x3_5.size, ((x3_5[0]'h).toNat : Int) = bt x3_5 0 := bt_at x3_5 0
         clear p12
         have qi12 : (0 < (x3_5.size : Int)) = True := eq_true (of_decide_eq_true (by first | (with_reducible assumption) | assumption))
         replace q12 := eq_true q12
         go_wp2
         go_meet
         case rel => exact ⟨_, (decide ((a0.size : Int) > 1)), (by first | rfl | (simp; done) | (simp [*]; done)), H', ⟨by have := HJ1.out; have := HJ5.out; first | omega | exact Nat.le_refl _⟩, by repeat (first | exact Drawn0.refl _ | apply Drawn0.step)⟩
        ·rw [if_neg c13] at H
         have c13b0 : ((bt x3_5 0) == 48) = false := beq_eq_false_iff_ne.mpr c13
         have c13b1 : ((bt x3_5 0) != 48) = true := bne_iff_ne.mpr c13
         have H' := Aside0.mk H
         clear H
         have p12 : 0 ≤ (0 : Int) := (by omega)
         have q12 : 0 < x3_5.size := (by have : (0 : Int) < (x3_5.size : Int) := of_decide_eq_true (by first | (with_reducible assumption) | assumption); omega)
         have hx12 : ∀ h : 0 < x3_5.size, ((x3_5[0]'h).toNat : Int) = bt x3_5 0 := bt_at x3_5 0
         clear p12
         have qi12 : (0 < (x3_5.size : Int)) = True := eq_true (of_decide_eq_true (by first | (with_reducible assumption) | assumption))
         replace q12 := eq_true q12
         go_wp2
         go_meet
         case rel => exact ⟨_, (false), (by first | rfl | (simp; done) | (simp [*]; done)), H', ⟨by have := HJ1.out; have := HJ5.out; first | omega | exact Nat.le_refl _⟩, by repeat (first | exact Drawn0.refl _ | apply Drawn0.step)⟩
       ·rw [if_neg c11] at H
        exact absurd H (by simp)
     case rest =>
      clear HC9
      obtain ⟨kq, x27_8, rfl, HA, HJ8, ⟨mc8, rfl⟩⟩ := hcut
      cases kq with
      | zero => exact absurd HA.out (by simp [wire_decimal.j2])
      | succ kj8 =>
       have H := HA.out
       clear HA
       simp only [wire_decimal.j2] at H
       by_cases c14 : x27_8 = true
       ·subst c14
        have H1 : (some false) = some r := by rw [if_pos rfl] at H; exact H
        clear H
        have H := H1
        clear H1
        obtain rfl := Option.some.inj H
        go_wp2
        go_ret
        exact ⟨by first | rfl | (simp; done) | (simp [*]; done), by repeat (first | exact Drawn0.refl _ | apply Drawn0.step)⟩
       ·replace c14 := Bool.eq_false_iff.mpr c14
        subst c14
        have H1 : (wire_decimal.l0 kj8 x3_5 (x3_5.size : Int) 0) = some r := by rw [if_neg (show ¬ (false = true) by decide)] at H; exact H
        clear H
        have H := H1
        clear H1
        have H' := Aside0.mk H
        clear H
        go_wp2
        go_loopg [30] kj8 (fun kq v30 w' => ∃ (x30_4 : Int), v30 = .int .i64 x30_4 ∧ Aside0 (wire_decimal.l0 kq x3_5 (x3_5.size : Int) x30_4 = some r) ∧ Aside0 (kq ≤ kj8) ∧ Drawn0 w w')
        case atStart => exact ⟨(0), (by first | rfl | (simp; done) | (simp [*]; done)), H', ⟨Nat.le_refl _⟩, by repeat (first | exact Drawn0.refl _ | apply Drawn0.step)⟩
        case round =>
         clear H'
         obtain ⟨x30_4, rfl, HA, HK4, ⟨m4, rfl⟩⟩ := hrel
         cases gk with
         | zero => exact absurd HA.out (by simp [wire_decimal.l0])
         | succ k4 =>
          have H := HA.out
          clear HA
          simp only [wire_decimal.l0] at H
          by_cases c15 : x30_4 < (x3_5.size : Int)
          ·rw [if_pos c15] at H
           have c15b0 : decide (x30_4 < (x3_5.size : Int)) = true := decide_eq_true c15
           clear c15
           by_cases c16 : 0 ≤ x30_4
           ·rw [if_pos c16] at H
            have c16b0 : decide (0 ≤ x30_4) = true := decide_eq_true c16
            clear c16
            by_cases c17 : x30_4 < (x3_5.size : Int)
            ·rw [if_pos c17] at H
             have c17b0 : decide (x30_4 < (x3_5.size : Int)) = true := decide_eq_true c17
             clear c17
             by_cases c19 : (bt x3_5 x30_4) < 48
             ·rw [if_pos c19] at H
              have c19b0 : decide ((bt x3_5 x30_4) < 48) = true := decide_eq_true c19
              clear c19
              obtain rfl := Option.some.inj H
              have p18 : 0 ≤ (x30_4 : Int) := of_decide_eq_true (by first | (with_reducible assumption) | assumption)
              have q18 : x30_4 < (x3_5.size : Int) := of_decide_eq_true (by first | (with_reducible assumption) | assumption)
              have hx18 := bt_at x3_5 x30_4
              replace p18 := eq_true p18
              replace q18 := eq_true q18
              go_wp2
              go_ret
              exact ⟨by first | rfl | (simp; done) | (simp [*]; done), by repeat (first | exact Drawn0.refl _ | apply Drawn0.step)⟩
             ·rw [if_neg c19] at H
              have c19b0 : decide ((bt x3_5 x30_4) < 48) = false := decide_eq_false c19
              clear c19
              by_cases c21 : (bt x3_5 x30_4) > 57
              ·rw [if_pos c21] at H
               have c21b0 : decide (57 < (bt x3_5 x30_4)) = true := decide_eq_true c21
               clear c21
               obtain rfl := Option.some.inj H
               have p18 : 0 ≤ (x30_4 : Int) := of_decide_eq_true (by first | (with_reducible assumption) | assumption)
               have q18 : x30_4 < (x3_5.size : Int) := of_decide_eq_true (by first | (with_reducible assumption) | assumption)
               have hx18 := bt_at x3_5 x30_4
               replace p18 := eq_true p18
               replace q18 := eq_true q18
               have p20 : 0 ≤ (x30_4 : Int) := of_decide_eq_true (by first | (with_reducible assumption) | assumption)
               have q20 : x30_4 < (x3_5.size : Int) := of_decide_eq_true (by first | (with_reducible assumption) | assumption)
               have hx20 := bt_at x3_5 x30_4
               replace p20 := eq_true p20
               replace q20 := eq_true q20
               go_wp2
               go_ret
               exact ⟨by first | rfl | (simp; done) | (simp [*]; done), by repeat (first | exact Drawn0.refl _ | apply Drawn0.step)⟩
              ·rw [if_neg c21] at H
               have c21b0 : decide (57 < (bt x3_5 x30_4)) = false := decide_eq_false c21
               clear c21
               have H' := Aside0.mk H
               clear H
               have p18 : 0 ≤ (x30_4 : Int) := of_decide_eq_true (by first | (with_reducible assumption) | assumption)
               have q18 : x30_4 < (x3_5.size : Int) := of_decide_eq_true (by first | (with_reducible assumption) | assumption)
               have hx18 := bt_at x3_5 x30_4
               replace p18 := eq_true p18
               replace q18 := eq_true q18
               have p20 : 0 ≤ (x30_4 : Int) := of_decide_eq_true (by first | (with_reducible assumption) | assumption)
               have q20 : x30_4 < (x3_5.size : Int) := of_decide_eq_true (by first | (with_reducible assumption) | assumption)
               have hx20 := bt_at x3_5 x30_4
               replace p20 := eq_true p20
               replace q20 := eq_true q20
               go_wp2
               go_roundg k4
               case measure => have := HJ1.out; have := HJ5.out; have := HJ8.out; have := HK4.out; omega
               case rel => exact ⟨(wrap64 (x30_4 + 1)), (by first | rfl | (simp; done) | (simp [*]; done)), H', ⟨by have := HJ1.out; have := HJ5.out; have := HJ8.out; have := HK4.out; omega⟩, by repeat (first | exact Drawn0.refl _ | apply Drawn0.step)⟩
            ·rw [if_neg c17] at H
             exact absurd H (by simp)
           ·rw [if_neg c16] at H
            exact absurd H (by simp)
          ·rw [if_neg c15] at H
           have c15b0 : decide (x30_4 < (x3_5.size : Int)) = false := decide_eq_false c15
           clear c15
           obtain rfl := Option.some.inj H
           go_wp2
           go_ret
           exact ⟨by first | rfl | (simp; done) | (simp [*]; done), by repeat (first | exact Drawn0.refl _ | apply Drawn0.step)⟩
end Go.Proofs.YtkfgnjdchnpjeaaDoor.QA
