/- Wire: what the law EntryCodes asks of it. -/
import Derived.Test.YtkfgnjdchnpjeaaDoorEoBase
import Derived.Test.YtkfgnjdchnpjeaaDoorEoShelf
import Derived.Test.YtkfgnjdchnpjeaaDoorEoQAx1
import Derived.Test.YtkfgnjdchnpjeaaDoorEoQAx2
import Derived.Lib.AtoiErrMem
import Derived.Lib.AppendStr
import Derived.Lib.AppendIntMem
import Derived.Lib.Hide
import Derived.Laws.AppendOwn
import Derived.LoopTactic
import Derived.OwnWalk
import Derived.WalkKit
import Derived.BigCall
import Derived.Outline
namespace Go.Proofs.YtkfgnjdchnpjeaaDoor
open Go.RowKit Go.Proofs.YtkfgnjdchnpjeaaDoorW.PrintWords
set_option linter.unusedVariables false
set_option linter.unusedSimpArgs false

def strconv_Itoa.f (a0 : Int) : Option ByteArray := if -9223372036854775808 ≤ a0 ∧ a0 ≤ 9223372036854775807 then some ⟨(Lib.itoa a0).toArray⟩ else none
theorem strconv_Itoa.calls (a0 : Int) (r : ByteArray) (w : World) (HTab_ : TabW w) (h : strconv_Itoa.f a0 = some r) :
    Calls Tryd.prog 72 #[.int .i64 a0] w fun e w' => e = .returned (.string r) ∧ Below w.heap.size w w' := by
  unfold strconv_Itoa.f at h
  split at h
  case isFalse => cases h
  case isTrue hlim =>
  obtain rfl := Option.some.inj h
  refine (Tryd.strconv_Itoa a0 hlim.1 hlim.2 w HTab_.pow).mono ?_
  rintro e w' ⟨rfl, k, os, rfl⟩
  exact ⟨rfl, Lib.below_grow _ _ (Nat.le_refl _) _ _⟩
/-- What TakeInt answers of a decimal text. -/
def atoiEnd : Lib.NumEnd Int → Int × Int
  | .ok v => (v, 0)
  | _ => (0, 6)
theorem atoi_ok (s : ByteArray) (hlim : s.size ≤ 281474976710656) (v : Int) (h : Lib.atoiAll s.data.toList = .ok v) (w : World) :
    Calls Tryd.prog 67 #[.string s] w fun e w' => e = .returned (.tuple #[.int .i64 v, .nilIface]) ∧ Below w.heap.size w w' := by
  refine (Tryd.strconv_Atoi_ok s (by omega) v h w).mono ?_
  rintro e w' ⟨rfl, hw⟩
  refine ⟨rfl, ?_⟩
  rcases hw with rfl | ⟨t, rfl⟩
  · exact Below.refl _ _
  · exact Lib.bytesWorld_below _ _ _
theorem atoi_bad (s : ByteArray) (hlim : s.size ≤ 281474976710656) (hn : ∀ v, Lib.atoiAll s.data.toList ≠ .ok v) (w : World) (h : TabW w) :
    Calls Tryd.prog 67 #[.string s] w fun e w' => ∃ (x : Int) (N : Nat), e = .returned (.tuple #[.int .i64 x, .iface 100 (.pointer (some ⟨N, 0, none⟩))]) ∧ Below w.heap.size w w' := by
  obtain ⟨t1, p1, hs⟩ := h.syn
  obtain ⟨t2, p2, hr⟩ := h.ran
  rcases hp : Lib.atoiAll s.data.toList with n | _ | _
  · exact absurd hp (hn n)
  · first
      | (refine (Tryd.strconv_Atoi_syntax_var s hlim hp t1 p1 w hs).mono ?_; rintro e w' ⟨N, rfl, -, -, hb⟩; exact ⟨_, N, rfl, hb⟩)
      | (refine (Tryd.strconv_Atoi_range_var s hlim hp t2 p2 w hr).mono ?_; rintro e w' ⟨N, rfl, -, -, hb⟩; exact ⟨_, N, rfl, hb⟩)
  · first
      | (refine (Tryd.strconv_Atoi_range_var s hlim hp t2 p2 w hr).mono ?_; rintro e w' ⟨N, rfl, -, -, hb⟩; exact ⟨_, N, rfl, hb⟩)
      | (refine (Tryd.strconv_Atoi_syntax_var s hlim hp t1 p1 w hs).mono ?_; rintro e w' ⟨N, rfl, -, -, hb⟩; exact ⟨_, N, rfl, hb⟩)
/-- wire.TakeInt. -/
def wire_TakeInt.f (a0 : ByteArray) : Option (Int × Int) :=
  if a0.size ≤ 281474976710656 then (QA.wire_decimal.f (a0.size + 10) a0).bind fun d => some (if d = true then atoiEnd (Lib.atoiAll a0.data.toList) else (0, 2)) else none
theorem wire_TakeInt.calls (a0 : ByteArray) (r1 r2 : Int) (w : World) (HTab_ : TabW w) (h : wire_TakeInt.f a0 = some (r1, r2)) :
    Calls Tryd.prog 47 #[.string a0] w fun e w' => e = .returned (.tuple #[.int .i64 r1, .int .i64 r2]) ∧ Below w.heap.size w w' := by
  unfold wire_TakeInt.f at h
  split at h
  case isFalse => cases h
  case isTrue hlim =>
  obtain ⟨d, hd, h⟩ := Option.bind_eq_some_iff.1 h
  have hr := Option.some.inj h
  have HD := Lib.hid hd
  have HT := Lib.hid HTab_
  clear h hd HTab_
  cases d with
  | false =>
    rw [if_neg (by simp)] at hr
    obtain ⟨rfl, rfl⟩ := Prod.mk.inj hr
    clear hr
    go_enter Tryd.func47, Tryd.ntmps47
    go_wp2_with (go_at_call 66; refine (QA.wire_decimal.calls _ a0 false _ HD.out).mono ?_; rintro e w' ⟨rfl, ⟨nd, rfl⟩⟩)
    go_ret2
    exact ⟨rfl, pw_below_drewN (Below.refl _ _) _⟩
  | true =>
    rw [if_pos rfl] at hr
    by_cases hbad : ∀ v, Lib.atoiAll a0.data.toList ≠ .ok v
    · have e6 : atoiEnd (Lib.atoiAll a0.data.toList) = (0, 6) := by
        rcases hp : Lib.atoiAll a0.data.toList with n | _ | _
        · exact absurd hp (hbad n)
        · rfl
        · rfl
      rw [e6] at hr
      obtain ⟨rfl, rfl⟩ := Prod.mk.inj hr
      have HB := Lib.hid hbad
      clear hr hbad e6
      go_enter Tryd.func47, Tryd.ntmps47
      go_wp2_with (first
        | (go_at_call 66; refine (QA.wire_decimal.calls _ a0 true _ HD.out).mono ?_; rintro e w' ⟨rfl, ⟨nd, rfl⟩⟩)
        | (go_at_call 67; refine (atoi_bad a0 hlim HB.out _ (HT.out.below (pw_below_drewN (Below.refl _ _) nd))).mono ?_; rintro e w1 ⟨x, N, rfl, hb⟩; have HW := Lib.hid hb; clear hb))
      go_ret2
      exact ⟨rfl, below_then (pw_below_drewN (Below.refl _ _) nd) (Nat.le_refl _) HW.out⟩
    · obtain ⟨v, hv⟩ : ∃ v, Lib.atoiAll a0.data.toList = .ok v := Classical.byContradiction fun hn => hbad fun v hv => hn ⟨v, hv⟩
      rw [hv] at hr
      obtain ⟨rfl, rfl⟩ := Prod.mk.inj hr
      have HV := Lib.hid hv
      clear hr hbad hv
      go_enter Tryd.func47, Tryd.ntmps47
      go_wp2_with (first
        | (go_at_call 66; refine (QA.wire_decimal.calls _ a0 true _ HD.out).mono ?_; rintro e w' ⟨rfl, ⟨nd, rfl⟩⟩)
        | (go_at_call 67; refine (atoi_ok a0 hlim _ HV.out _).mono ?_; rintro e w1 ⟨rfl, hb⟩; have HW := Lib.hid hb; clear hb))
      go_ret2
      exact ⟨rfl, below_then (pw_below_drewN (Below.refl _ _) nd) (Nat.le_refl _) HW.out⟩
end Go.Proofs.YtkfgnjdchnpjeaaDoor

