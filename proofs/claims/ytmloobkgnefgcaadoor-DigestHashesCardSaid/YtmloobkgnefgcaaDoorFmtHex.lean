/- strconv.FormatUint(u, 16): the hexadecimal numeral of any uint64; walked over this seat's program. -/
import Derived.Test.YtmloobkgnefgcaaDoorProg
import Derived.Test.YtmloobkgnefgcaaDoorHexPure
import Derived.Test.YtmloobkgnefgcaaDoorBase
import Derived.Lib.Walk
import Derived.Lib.ItoaMem
import Derived.Lib.Hide
import Derived.Laws.BitsLemmas
import Derived.WalkKit
import Derived.BigCall
import Derived.BigGuard
import Derived.LoopTactic
import Derived.Test.YtmloobkgnefgcaaDoorWWords
namespace Go.Proofs.YtmloobkgnefgcaaDoor
open Go.RowKit Go.Proofs.YtmloobkgnefgcaaDoorW.PrintWords

theorem tz16 (w : World) (h : TabW w) : Calls Tryd.prog 59 #[.int .u64 16] w fun e w' => e = .returned (.int .i64 4) ∧ w' = w := by
  have hc : w.cell? ⟨4, 15, none⟩ = some (.int .u8 4) := h.tzCell 15 (by omega)
  have hq : IntKind.u64.wrap (Go.bits .and .u64 16 (IntKind.u64.wrap (-16)) * 285870213051353865) / 288230376151711744 = 15 := by decide +kernel
  go_enter Tryd.func59, Tryd.ntmps59
  go_wp2
  go_ret
  exact ⟨rfl, rfl⟩

theorem pow2_16 (w : World) : Calls Tryd.prog 58 #[.int .i64 16] w fun e w' => e = .returned (.bool true) ∧ w' = w := by
  go_enter Tryd.func58, Tryd.ntmps58
  go_wp2
  go_ret
  exact ⟨rfl, rfl⟩

/-- What the loop of formatBits keeps: the digits that lie in the row already. -/
def FbRel (u : Nat) (cs : Array Value) (v k : Nat) : Prop :=
  cs.size = 65 ∧ v < 16 ^ (16 - k) ∧ k ≤ 15 ∧ ∃ ds : List UInt8, ds.length = k ∧ hexDigits u = hexDigits v ++ ds ∧ ∀ j (hj : j < ds.length), cs[65 - k + j]? = some (.int .u8 (ds[j].toNat : Int))

theorem bitsAnd15 (v : Nat) (h : v < 18446744073709551616) : Go.bits .and .u64 (v : Int) 15 = ((v % 16 : Nat) : Int) := by
  have e : v &&& 15 = v % 16 := Nat.and_two_pow_sub_one_eq_mod v 4
  have e1 : (2 : Nat) ^ IntKind.u64.bits = 18446744073709551616 := by decide
  simp [Go.bits]
  rw [e1, Nat.mod_eq_of_lt h, show 15 % 18446744073709551616 = 15 from rfl, e, IntKind.wrap_u64]
  omega

def digs : ByteArray := ⟨#[48, 49, 50, 51, 52, 53, 54, 55, 56, 57, 97, 98, 99, 100, 101, 102, 103, 104, 105, 106, 107, 108, 109, 110, 111, 112, 113, 114, 115, 116, 117, 118, 119, 120, 121, 122]⟩
theorem digs_fin : ∀ i : Fin 16, digs.data.toList.getD i.val 0 = hexDig i.val := by decide +kernel
theorem digs_at (i : Nat) (h : i < digs.size) (hi : i < 16) : digs[i]'h = hexDig i := by
  have := digs_fin ⟨i, hi⟩
  rw [← this]
  show digs.data[i] = _
  simp [List.getD, Array.getElem?_eq_getElem (show i < digs.data.size from h)]

/-- One digit more lies in the row. -/
theorem FbRel.more {u : Nat} {cs : Array Value} {v k : Nat} (h : FbRel u cs v k) (hge : 16 ≤ v) : FbRel u (cs.setIfInBounds (64 - k) (.int .u8 ((hexDig (v % 16)).toNat : Int))) (v / 16) (k + 1) := by
  obtain ⟨hcs, hv, hk, ds, hdl, hdec, hds⟩ := h
  have hk14 : k ≤ 14 := by
    have : ¬ k = 15 := by
      rintro rfl
      have : (16 : Nat) ^ (16 - 15) = 16 := by decide
      omega
    omega
  refine ⟨by simp [hcs], ?_, by omega, hexDig (v % 16) :: ds, by simp [hdl], by rw [hdec, hexDigits_big (by omega : ¬ v < 16)]; simp, ?_⟩
  · have e : 16 - k = (16 - (k + 1)) + 1 := by omega
    rw [e, Nat.pow_succ] at hv
    omega
  · intro j hj
    cases j with
    | zero => rw [Array.getElem?_setIfInBounds]; simp [hcs]; omega
    | succ j =>
      have hj' : j < ds.length := by simpa using hj
      rw [Array.getElem?_setIfInBounds, if_neg (by omega)]
      have := hds j hj'
      rw [show 65 - (k + 1) + (j + 1) = 65 - k + j by omega, this]
      simp

set_option maxHeartbeats 4000000 in
set_option maxRecDepth 100000 in
theorem formatBits16 (u : Nat) (hu : u < 18446744073709551616) (w : World) (h : TabW w) :
    Calls Tryd.prog 51 #[.slice none 0 0, .int .u64 (u : Int), .int .i64 16, .bool false, .bool false] w fun e w' => e = .returned (.tuple #[.slice none 0 0, .string ⟨(hexDigits u).toArray⟩]) ∧ Below w.heap.size w w' := by
  have HT := Lib.hid h
  clear h
  obtain ⟨U, hU⟩ : ∃ U : Int, U = (u : Int) := ⟨_, rfl⟩
  have u0 : 0 ≤ U := by omega
  have u1 : U < 18446744073709551616 := by omega
  rw [← hU]
  have HU := Lib.hid hU
  clear hU
  go_enter Tryd.func51, Tryd.ntmps51
  go_wp2_with (first
    | (go_at_call 58; refine (pow2_16 _).mono ?_; rintro e w' ⟨rfl, rfl⟩)
    | (go_at_call 59; refine (tz16 _ (HT.out.below (below_alloc (Below.refl _ _) _))).mono ?_; rintro e w' ⟨rfl, rfl⟩))
  go_loopw [1, 13] (fun vu vi wr => ∃ (V I : Int) (cs : Array Value) (v k : Nat), vu = .int .u64 V ∧ vi = .int .i64 I ∧ Hid (V = (v : Int) ∧ I = 65 - (k : Int) ∧ FbRel u cs v k ∧ wr.heap[w.heap.size]? = some (.cells cs 73 (0, 0)) ∧ Below w.heap.size w wr)) (fun vu _ _ => (intOf vu).toNat)
  case atStart =>
    refine ⟨U, 65, Tryd.zeroCells73, u, 0, rfl, rfl, Lib.hid ⟨HU.out, by omega, ⟨by kernel_rfl, ?_, by omega, [], rfl, by simp, fun j hj => absurd hj (by simp)⟩, heap_alloc_new w _, below_alloc (Below.refl _ _) _⟩⟩
    have : (16 : Nat) ^ (16 - 0) = 18446744073709551616 := by decide
    omega
  case round =>
    obtain ⟨V, I, cs, v, k, rfl, rfl, hh⟩ := hrel
    obtain ⟨hV, hI, ⟨hcs, hv, hk, ds, hdl, hdec, hds⟩, hblk, hbel⟩ := hh.out
    clear hh
    by_cases hge : 16 ≤ v
    · have i0 : 0 ≤ I - 1 := by omega
      have i1 : I - 1 < 65 := by omega
      have i2 : I ≤ 65 := by omega
      have v1 : 16 ≤ V := by omega
      have v2 : V < 18446744073709551616 := by
        have h1 : (16 : Nat) ^ (16 - k) ≤ 16 ^ 16 := Nat.pow_le_pow_right (by omega) (by omega)
        have h2 : (16 : Nat) ^ 16 = 18446744073709551616 := by decide
        omega
      obtain ⟨D, hD⟩ : ∃ D : Int, Go.bits .and .u64 V 15 = D := ⟨_, rfl⟩
      have hDv : D = ((v % 16 : Nat) : Int) := by rw [← hD, hV]; exact bitsAnd15 v (by omega)
      have d0 : 0 ≤ D := by omega
      have d1 : D < 16 := by omega
      have hcell : wr.cell? ⟨w.heap.size, I.toNat - 1, none⟩ = cs[I.toNat - 1]? := blk_cell hblk _
      obtain ⟨x, hx⟩ : ∃ x, cs[I.toNat - 1]? = some x := ⟨_, Array.getElem?_eq_getElem (show I.toNat - 1 < cs.size by omega)⟩
      rw [hx] at hcell
      have hfr : wr.frozen? ⟨w.heap.size, I.toNat - 1, none⟩ = false := blk_frozen hblk _
      have HR := Lib.hid (And.intro hV (And.intro hI (And.intro hcs (And.intro hv (And.intro hk (And.intro hdl (And.intro hdec (And.intro hds (And.intro hblk (And.intro hbel (And.intro hge hDv)))))))))))
      clear hV hI hcs hv hk hdl hdec hds hblk hbel hge hDv hx
      go_wp2
      refine ⟨⟨V / 16, I - 1, cs.setIfInBounds (I.toNat - 1) (.int .u8 ((hexDig (v % 16)).toNat : Int)), v / 16, k + 1, ?_, ?_, Lib.hid ?_⟩, ?_⟩
      · rfl
      · rfl
      · obtain ⟨hV, hI, hcs, hv, hk, hdl, hdec, hds, hblk, hbel, hge, hDv⟩ := HR.out
        have e1 : I.toNat - 1 = 64 - k := by omega
        have e2 : D.toNat = v % 16 := by omega
        refine ⟨by omega, by omega, ?_, ?_, ?_⟩
        · rw [e1]; exact FbRel.more ⟨hcs, hv, hk, ds, hdl, hdec, hds⟩ hge
        · rw [← digs_at (v % 16) (by have : digs.size = 36 := by decide +kernel
                                     omega) (by omega)]
          simp only [← e2]
          exact blk_set hblk _ _
        · exact below_set hbel (Nat.le_refl _)
      · simp [intOf]; omega
    · obtain ⟨c, hc⟩ : ∃ c : Int, c = ((hexDig v).toNat : Int) := ⟨_, rfl⟩
      have hix : ∀ W, (Instr.index 9 (.string ⟨#[48, 49, 50, 51, 52, 53, 54, 55, 56, 57, 97, 98, 99, 100, 101, 102, 103, 104, 105, 106, 107, 108, 109, 110, 111, 112, 113, 114, 115, 116, 117, 118, 119, 120, 121, 122]⟩) (.int .u64 V)).run Tryd.prog W = .ok (.int .u8 c) W := fun W => by
        have h36 : digs.size = 36 := by decide +kernel
        have e := run_index_string (P := Tryd.prog) W 9 digs .u64 V Tryd.underlying9
        rw [dif_pos (show 0 ≤ V ∧ V < (digs.size : Int) by omega)] at e
        refine e.trans ?_
        rw [digs_at V.toNat (by omega) (by omega), hc, hV]
        rfl
      have hcell2 : ∀ y, (wr.setCell ⟨w.heap.size, I.toNat - 1, none⟩ y).heap[w.heap.size]? = some (.cells (cs.setIfInBounds (I.toNat - 1) y) 73 (0, 0)) := fun y => blk_set hblk _ _
      have hsl : ∀ W, (Instr.sliceAt 73 (.pointer (some ⟨w.heap.size, 0, none⟩)) (some (.int .i64 (I - 1))) none none).run Tryd.prog W = .ok (.slice (some ⟨w.heap.size, 64 - k, none⟩) (k + 1) (k + 1)) W := fun W => by
        have hal : Tryd.prog.arrayLen 73 = 65 := by kernel_rfl
        rw [run_sliceAt_array_l W 73 ⟨w.heap.size, 0, none⟩ (by kernel_rfl) .i64 (I - 1) (by omega) (by rw [hal]; omega), hal]
        have e : (I - 1).toNat = 64 - k := by omega
        rw [e]
        go_simp
        omega
      have hlen : (hexDigits u).length = k + 1 := by rw [hdec, hexDigits_small (by omega : v < 16)]; simp [hdl]
      have hcv := run_convert_bytes_back (P := Tryd.prog) (wr.setCell ⟨w.heap.size, I.toNat - 1, none⟩ (.int .u8 c)) 34 9 5 ⟨w.heap.size, 64 - k, none⟩ (k + 1) (hexDigits u) Tryd.underlying34 Tryd.underlying5 Tryd.underlying9 (fun j hj => by
        rw [Lib.add_plain, blk_cell (hcell2 _), Array.getElem?_setIfInBounds]
        have e1 : I.toNat - 1 = 64 - k := by omega
        rw [e1]
        cases j with
        | zero =>
          rw [if_pos (by omega), if_pos (by omega), hc]
          simp only [hdec, hexDigits_small (show v < 16 by omega)]
          rfl
        | succ j =>
          rw [hlen] at hj
          rw [if_neg (by omega), show 64 - k + (j + 1) = 65 - k + j by omega, hds j (by omega)]
          simp only [hdec, hexDigits_small (show v < 16 by omega)]
          rfl)
      rw [hlen] at hcv
      clear hcell2 hlen hc
      have i0 : 0 ≤ I - 1 := by omega
      have i1 : I - 1 < 65 := by omega
      have i2 : I ≤ 65 := by omega
      have v0 : 0 ≤ V := by omega
      have v1 : V < 16 := by omega
      have hcell : wr.cell? ⟨w.heap.size, I.toNat - 1, none⟩ = cs[I.toNat - 1]? := blk_cell hblk _
      obtain ⟨x, hx⟩ : ∃ x, cs[I.toNat - 1]? = some x := ⟨_, Array.getElem?_eq_getElem (show I.toNat - 1 < cs.size by omega)⟩
      rw [hx] at hcell
      have hfr : wr.frozen? ⟨w.heap.size, I.toNat - 1, none⟩ = false := blk_frozen hblk _
      have HR := Lib.hid (And.intro hV (And.intro hI (And.intro hcs (And.intro hv (And.intro hk (And.intro hdl (And.intro hdec (And.intro hds (And.intro hblk (And.intro hbel hge))))))))))
      clear hV hI hcs hv hk hdl hdec hds hblk hbel hge hx
      go_wp2
      go_ret2
      obtain ⟨hV, hI, hcs, hv, hk, hdl, hdec, hds, hblk, hbel, hge⟩ := HR.out
      exact ⟨rfl, below_set hbel (Nat.le_refl _)⟩

theorem formatUint16_inner (u : Nat) (hu : u < 18446744073709551616) (w : World) (h : TabW w) :
    Calls Tryd.prog 40 #[.int .u64 (u : Int), .int .i64 16] w fun e w' => e = .returned (.string ⟨(hexDigits u).toArray⟩) ∧ Below w.heap.size w w' := by
  go_enter Tryd.func40, Tryd.ntmps40
  go_wp2_with (go_at_call 51; refine (formatBits16 u hu _ h).mono ?_; rintro e w' ⟨rfl, hb⟩)
  go_ret
  exact ⟨rfl, hb⟩

theorem formatUint16 (u : Nat) (hu : u < 18446744073709551616) (w : World) (h : TabW w) :
    Calls Tryd.prog 31 #[.int .u64 (u : Int), .int .i64 16] w fun e w' => e = .returned (.string ⟨(hexDigits u).toArray⟩) ∧ Below w.heap.size w w' := by
  go_enter Tryd.func31, Tryd.ntmps31
  go_wp2_with (go_at_call 40; refine (formatUint16_inner u hu _ h).mono ?_; rintro e w' ⟨rfl, hb⟩)
  go_ret
  exact ⟨rfl, hb⟩
end Go.Proofs.YtmloobkgnefgcaaDoor
