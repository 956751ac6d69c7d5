/- internal/strconv.ParseUint(s, 16, 64) and internal/strconv.lower: contracts, walked over this seat's program; turned from the shelf's text at base 10. -/
import Derived.Test.YtmloobkgnefgcaaDoorProg
import Derived.Test.YtmloobkgnefgcaaDoorHexPure
import Derived.Lib.Strings
import Derived.Lib.Walk
import Derived.Lib.ConvBytes
import Derived.Lib.AtoiAllMem
import Derived.Lib.Hide
import Derived.Laws.Strings3
import Derived.Laws.Closers25
import Derived.Laws.Closers25b
import Derived.Laws.BitsLemmas
import Derived.WalkKit
import Derived.BigCall
import Derived.BigGuard
namespace Go.Proofs.YtmloobkgnefgcaaDoor
open Go.RowKit

theorem lower_calls (c : Int) (w : World) : Calls Tryd.prog 42 #[.int .u8 c] w fun e w' => e = .returned (.int .u8 (Go.bits .or .u8 c 32)) ∧ w' = w := by
  go_enter Tryd.func42, Tryd.ntmps42
  go_wp2
  go_ret
  exact ⟨rfl, rfl⟩

/-- What 'lower' makes of a byte, by cases: the letters of base 16 in both cases, and all else. -/
theorem lower_hex_fin : ∀ c : Fin 256, ∀ l : Nat, (Go.bits .or .u8 (c.val : Int) 32) = (l : Int) → l < 256 ∧ (97 ≤ l ∧ l ≤ 102 ↔ (97 ≤ c.val ∧ c.val ≤ 102) ∨ (65 ≤ c.val ∧ c.val ≤ 70)) ∧ (97 ≤ c.val ∧ c.val ≤ 102 → l = c.val) ∧ (65 ≤ c.val ∧ c.val ≤ 70 → l = c.val + 32) := by
  intro c l h
  have key : ∀ c : Fin 256, (Go.bits .or .u8 (c.val : Int) 32).toNat < 256 ∧ 0 ≤ (Go.bits .or .u8 (c.val : Int) 32) ∧ (97 ≤ (Go.bits .or .u8 (c.val : Int) 32).toNat ∧ (Go.bits .or .u8 (c.val : Int) 32).toNat ≤ 102 ↔ (97 ≤ c.val ∧ c.val ≤ 102) ∨ (65 ≤ c.val ∧ c.val ≤ 70)) ∧ (97 ≤ c.val ∧ c.val ≤ 102 → (Go.bits .or .u8 (c.val : Int) 32).toNat = c.val) ∧ (65 ≤ c.val ∧ c.val ≤ 70 → (Go.bits .or .u8 (c.val : Int) 32).toNat = c.val + 32) := by decide +kernel
  have := key c
  rw [h] at this
  simpa using this

theorem lower_at (c l : Nat) (h : Go.bits .or .u8 (c : Int) 32 = (l : Int)) (w : World) : Calls Tryd.prog 42 #[.int .u8 (c : Int)] w fun e w' => e = .returned (.int .u8 (l : Int)) ∧ w' = w := by
  have := lower_calls (c : Int) w
  rw [h] at this
  exact this

set_option maxHeartbeats 32000000 in
set_option maxRecDepth 100000 in
/-- internal/strconv.ParseUint(s, 16, 64), s not empty: 'parseHex 0' of its bytes. The world behind the call: the one new row that '[]byte(s)' lays. -/
theorem parseUint16_inner (t : ByteArray) (hne : t.size ≠ 0) (hmax : t.size ≤ 9223372036854775806) (w : World) :
    Calls Tryd.prog 38 #[.string t, .int .i64 16, .int .i64 64] w fun e w' => e = .returned (Lib.uintTuple 53 (parseHex 0 t.data.toList)) ∧ w' = Lib.bytesWorld w 5 t := by
  have hemp : t.toList.isEmpty = false := by
    rw [← decide_eq_emptyBytes]
    exact decide_eq_false (fun h => hne (by rw [h]; rfl))
  have hcv := Lib.run_convert_string_bytes (P := Tryd.prog) w 9 34 5 t (u := .string) Tryd.underlying9 Tryd.underlying34 Tryd.underlying5
  have hB : ∀ j, j < t.size → (Lib.bytesWorld w 5 t).cell? ⟨w.heap.size, j, none⟩ = some (.int .u8 (t.data.toList.getD j 0).toNat) := fun j hj => Lib.bytesWorld_cell w 5 t j hj
  obtain ⟨W1, hW1⟩ : ∃ W1, W1 = Lib.bytesWorld w 5 t := ⟨_, rfl⟩
  rw [← hW1] at hcv hB ⊢
  clear hW1
  obtain ⟨bs, hL⟩ : ∃ bs, bs = t.data.toList := ⟨_, rfl⟩
  have hLn : bs.length = t.size := by rw [hL, Lib.size_eq]
  rw [← hL] at hB ⊢
  clear hL
  have hmv : IntKind.u64.wrap (IntKind.u64.wrap 18446744073709551616 - 1) = 18446744073709551615 := by
    rw [IntKind.wrap_u64, IntKind.wrap_u64]
    decide
  go_enter Tryd.func38, Tryd.ntmps38
  go_wp2
  go_loop [12, 13, 101] (fun vu vn vi => ∃ (k acc : Nat) (a : Int), vu = .bool false ∧ vn = .int .u64 a ∧ vi = .int .i64 k ∧ k ≤ t.size ∧ Hid (a = (acc : Int) ∧ acc < 18446744073709551616 ∧ parseHex 0 bs = parseHex acc (bs.drop k)))
    (fun _ _ vi => t.size - (intOf vi).toNat)
  case atStart => exact ⟨0, 0, 0, rfl, rfl, rfl, by omega, rfl, by omega, rfl⟩
  case round =>
    obtain ⟨k, acc, a, rfl, rfl, rfl, hk, hh⟩ := hrel
    obtain ⟨ha, hacc, hdec⟩ := hh.out
    clear hh
    have a0 : 0 ≤ a := by omega
    have a1 : a < 18446744073709551616 := by omega
    by_cases hkn : k < t.size
    · have hc := hB k hkn
      have hdrop : bs.drop k = bs[k]'(by omega) :: bs.drop (k + 1) := List.drop_eq_getElem_cons (by omega)
      have hget : bs.getD k 0 = bs[k]'(by omega) := by simp [List.getD, List.getElem?_eq_getElem (show k < bs.length by omega)]
      rw [hdrop] at hdec
      rw [hget] at hc
      generalize bs[k]'(by omega) = c at hc hdec
      have hc256 : c.toNat < 256 := c.toNat_lt
      clear hB hdrop hget
      by_cases hdig : 48 ≤ c.toNat ∧ c.toNat ≤ 57
      · have hv : hexVal c = some (c.toNat - 48) := by unfold hexVal; rw [if_pos hdig]
        obtain ⟨hd0, hd1⟩ := hdig
        by_cases hcut : 1152921504606846976 ≤ acc
        · have hF : parseHex acc (c :: bs.drop (k + 1)) = .range := by simp only [parseHex, hv]; rw [if_pos hcut]
          rw [hF] at hdec
          have icut : 1152921504606846976 ≤ a := by omega
          clear hcut hacc hF ha hv
          go_wp2
          go_ret2
          exact ⟨rfl, rfl⟩
        · have hF : parseHex acc (c :: bs.drop (k + 1)) = parseHex (acc * 16 + (c.toNat - 48)) (bs.drop (k + 1)) := by simp only [parseHex, hv]; rw [if_neg hcut]
          have HN : Hid (a * 16 + ((c.toNat : Int) - 48) = ((acc * 16 + (c.toNat - 48) : Nat) : Int) ∧ acc * 16 + (c.toNat - 48) < 18446744073709551616 ∧ parseHex 0 bs = parseHex (acc * 16 + (c.toNat - 48)) (bs.drop (k + 1))) := Lib.hid ⟨by omega, by omega, hdec.trans hF⟩
          have icut : a < 1152921504606846976 := by omega
          have iov : a * 16 + ((c.toNat : Int) - 48) < 18446744073709551616 := by omega
          clear hcut hacc hF hdec ha hv
          go_wp2
          refine ⟨⟨k + 1, acc * 16 + (c.toNat - 48), a * 16 + ((c.toNat : Int) - 48), rfl, (by first | rfl | (congr 1; omega)), (by first | rfl | (congr 1; omega)), by omega, HN⟩, by simp [intOf]; omega⟩
      · have hv0 := bits_lo_u8 .or (c.toNat : Int) 32
        obtain ⟨l, hl⟩ : ∃ l : Nat, Go.bits .or .u8 (c.toNat : Int) 32 = (l : Int) := ⟨(Go.bits .or .u8 (c.toNat : Int) 32).toNat, by omega⟩
        have hL := lower_hex_fin ⟨c.toNat, hc256⟩ l hl
        simp only at hL
        obtain ⟨hl256, hlx, hla, hlb⟩ := hL
        clear hv0
        have HL := Lib.hid hl
        clear hl
        by_cases hx : 97 ≤ l ∧ l ≤ 102
        · have hv : hexVal c = some (l - 87) := by
            unfold hexVal
            rw [if_neg hdig]
            rcases hlx.1 hx with h | h
            · rw [if_pos h, hla h]
            · rw [if_neg (by omega), if_pos h, hlb h]; exact congrArg some (by omega)
          obtain ⟨hx0, hx1⟩ := hx
          have ix0 : 97 ≤ (l : Int) := by omega
          have ix1 : (l : Int) ≤ 102 := by omega
          have n95 : ((c.toNat : Int) == 95) = false := by rw [beq_eq_false_iff_ne]; rcases hlx.1 ⟨hx0, hx1⟩ with h | h <;> omega
          clear hlx hla hlb
          by_cases hcut : 1152921504606846976 ≤ acc
          · have hF : parseHex acc (c :: bs.drop (k + 1)) = .range := by simp only [parseHex, hv]; rw [if_pos hcut]
            rw [hF] at hdec
            have icut : 1152921504606846976 ≤ a := by omega
            have HD := Lib.hid hdig
            clear hcut hacc hF ha hv hdig
            go_wp2_with (go_at_call 42; refine (lower_at _ l HL.out _).mono ?_; rintro e w' ⟨rfl, rfl⟩)
            all_goals first
              | (exfalso; have := HD.out; omega)
              | (go_ret2; exact ⟨by rw [hdec]; rfl, rfl⟩)
          · have hF : parseHex acc (c :: bs.drop (k + 1)) = parseHex (acc * 16 + (l - 87)) (bs.drop (k + 1)) := by simp only [parseHex, hv]; rw [if_neg hcut]
            have HN : Hid (a * 16 + ((l : Int) - 97 + 10) = ((acc * 16 + (l - 87) : Nat) : Int) ∧ acc * 16 + (l - 87) < 18446744073709551616 ∧ parseHex 0 bs = parseHex (acc * 16 + (l - 87)) (bs.drop (k + 1))) := Lib.hid ⟨by omega, by omega, hdec.trans hF⟩
            have icut : a < 1152921504606846976 := by omega
            have iov : a * 16 + ((l : Int) - 97 + 10) < 18446744073709551616 := by omega
            have HD := Lib.hid hdig
            clear hcut hacc hF hdec ha hv hdig
            go_wp2_with (go_at_call 42; refine (lower_at _ l HL.out _).mono ?_; rintro e w' ⟨rfl, rfl⟩)
            all_goals first
              | (exfalso; have := HD.out; omega)
              | refine ⟨⟨k + 1, acc * 16 + (l - 87), a * 16 + ((l : Int) - 97 + 10), rfl, (by first | rfl | (congr 1; omega)), (by first | rfl | (congr 1; omega)), by omega, HN⟩, by simp [intOf]; omega⟩
        · have hv : hexVal c = none := by
            unfold hexVal
            rw [if_neg hdig, if_neg (fun h => hx (hlx.2 (.inl h))), if_neg (fun h => hx (hlx.2 (.inr h)))]
          have hF : parseHex acc (c :: bs.drop (k + 1)) = badN := by simp only [parseHex, hv]
          rw [hF] at hdec
          have HD := Lib.hid hdig
          have HX := Lib.hid hx
          clear hacc hF ha hv hlx hla hlb hdig hx
          by_cases h95 : c.toNat = 95
          all_goals
            first
              | (have n95 : ((c.toNat : Int) == 95) = true := by rw [beq_iff_eq]; omega)
              | (have n95 : ((c.toNat : Int) == 95) = false := by rw [beq_eq_false_iff_ne]; omega)
            clear h95
            go_wp2_with (go_at_call 42; refine (lower_at _ l HL.out _).mono ?_; rintro e w' ⟨rfl, rfl⟩)
            all_goals first
              | (exfalso; have := HD.out; omega)
              | (exfalso; have := HX.out; omega)
              | (go_ret2; exact ⟨rfl, rfl⟩)
              | (go_ret2; exact ⟨by rw [hdec]; rfl, rfl⟩)
    · have hkk : k = t.size := by omega
      subst hkk
      have hF : parseHex acc (bs.drop t.size) = .ok acc := by rw [List.drop_eq_nil_of_le (by omega)]; rfl
      rw [hF] at hdec
      subst ha
      clear hacc hF a0 a1
      go_wp2
      go_ret2
      exact ⟨rfl, rfl⟩
end Go.Proofs.YtmloobkgnefgcaaDoor
