/- Unpack: what the law EntryCodes asks of it. -/
import Derived.Test.YtkfgnjdchnpjeaaDoorEoPack
namespace Go.Proofs.YtkfgnjdchnpjeaaDoor
open Go.RowKit Go.Proofs.YtkfgnjdchnpjeaaDoorW.PrintWords
set_option linter.unusedVariables false
set_option linter.unusedSimpArgs false

/-- What Unpack does with what is left of the bytes. -/
def unpk : Nat → List Int → List ByteArray → Option (List ByteArray × Int)
  | 0, _, _ => none
  | f + 1, rest, acc => if rest.length = 0 then some (acc, 0) else
      (QA.wire_length.f (rest.length + 10) rest).bind fun t => if t.2.2 = false then some ([], 2) else
        if 0 ≤ t.1 ∧ t.1 ≤ 1000000000 ∧ 1 ≤ t.2.1 ∧ t.2.1 ≤ (rest.length : Int) then
          (if (rest.length : Int) - t.2.1 < t.1 then some ([], 24) else unpk f (rest.drop (t.2.1 + t.1).toNat) (acc ++ [strOfNums ((rest.take (t.2.1 + t.1).toNat).drop t.2.1.toNat)]))
        else none
def wire_Unpack.f (a0 : ByteArray) : Option (List ByteArray × Int) := if a0.size ≤ 1000000000 then unpk (a0.size + 1) (bytesOf a0) [] else none
def slen : Value → Nat
  | .slice _ n _ => n
  | _ => 0
theorem info9 : (Tryd.prog.info? 9).map (fun i => (i.zero, i.size, i.bytes)) = some (some (.string ⟨#[]⟩), 1, 16) := by kernel_rfl
/-- 'x[lo:hi:hi]'. -/
theorem cut3 (A : Option Addr) (n c : Nat) (lo hi' : Int) (h0 : 0 ≤ lo) (h1 : lo ≤ hi') (h2 : hi' ≤ n) (hc : n ≤ c) :
    ∀ W : World, (Instr.slice 81 (.slice A n c) (some (.int .i64 lo)) (some (.int .i64 hi')) (some (.int .i64 hi'))).run Tryd.prog W = .ok (.slice (if hi'.toNat = lo.toNat then A else A.map (·.add (lo.toNat * 1))) (hi'.toNat - lo.toNat) (hi'.toNat - lo.toNat)) W := by
  intro W
  obtain ⟨i0, hi, hz0, hz1, hz2⟩ := info_parts info5
  have hel : Tryd.prog.elem 81 = 5 := by simp [Program.elem, Tryd.underlying81]
  have hu : Tryd.prog.underlying 81 = some (.slice (Tryd.prog.elem 81)) := by rw [hel]; exact Tryd.underlying81
  rw [run_slice_lhm W 81 A n c hu .i64 .i64 .i64 lo hi' hi' h0 h1 (Int.le_refl _) (by omega), hel]
  simp [sizeOf, typeInfo, hi, hz1, sliced, Result.andThen]
/-- The bytes of a text, as the row that '[]byte(s)' makes reads. -/
theorem reads_bytes (w : World) (s : ByteArray) (hs : s.size ≤ 1000000000) : Kd.C (Kd.int .u8) (Lib.bytesWorld w 5 s) (some ⟨w.heap.size, 0, none⟩) (bytesOf s).length (bytesOf s) := by
  have hl := bytesOf_length s
  refine Kd.C_of_reads (enc := Value.int .u8) (d := (0 : Int)) (h1 := fun _ => rfl) ⟨rfl, by omega, fun _ => ⟨_, rfl, fun j hj => ?_⟩⟩
  rw [Lib.add_plain, Nat.zero_add, Lib.bytesWorld_cell w 5 s j (by omega)]
  have hj2 : j < s.data.size := by show j < s.size; omega
  simp [bytesOf, List.getD, Array.getElem?_eq_getElem hj2]
set_option maxHeartbeats 4000000 in
set_option maxRecDepth 100000 in
theorem wire_Unpack.calls (a0 : ByteArray) (r1 : List ByteArray) (r2 : Int) (w : World) (h : wire_Unpack.f a0 = some (r1, r2)) :
    Calls Tryd.prog 46 #[.string a0] w fun e w' => ∃ v0_ : Value, e = .returned (.tuple #[v0_, .int .i64 r2]) ∧ Kd.R Kd.string 9 w' w.heap.size (fun _ => True) v0_ r1 ∧ Below w.heap.size w w' := by
  unfold wire_Unpack.f at h
  split at h
  case isFalse => cases h
  case isTrue hlim =>
  have hcv := Lib.run_convert_string_bytes (P := Tryd.prog) w 9 81 5 a0 (u := .string) Tryd.underlying9 Tryd.underlying81 Tryd.underlying5
  have hbl := bytesOf_length a0
  have hrd := reads_bytes w a0 hlim
  have hcp := grownCap_ge w a0.size 0 5
  have hbw := Lib.bytesWorld_below w 5 a0
  generalize Lib.bytesWorld w 5 a0 = W1 at hcv hrd hbw
  generalize grownCap w a0.size 0 5 = C1 at hcv hcp
  rw [← hbl] at hcv
  have HH := Lib.hid (And.intro h (And.intro hlim (And.intro hbl (And.intro hrd (And.intro hcp hbw)))))
  clear h hlim hbl hrd hcp hbw
  go_enter Tryd.func46, Tryd.ntmps46
  go_wp2
  go_loopw [4, 5] (fun vr vl wr => ∃ (A : Option Addr) (c : Nat) (rest : List Int) (acc : List ByteArray) (f : Nat), vr = .slice A rest.length c ∧ Hid (Kd.C (Kd.int .u8) W1 A rest.length rest ∧ rest.length ≤ c ∧ Kd.R Kd.string 9 wr W1.heap.size (fun _ => True) vl acc ∧ Below W1.heap.size W1 wr ∧ unpk f rest acc = some (r1, r2) ∧ acc.length + rest.length ≤ 1000000000)) (fun vr _ _ => slen vr)
  case atStart =>
    obtain ⟨h, hlim, hbl, hrd, hcp, hbw⟩ := HH.out
    exact ⟨_, _, bytesOf a0, [], _, rfl, Lib.hid ⟨hrd, by omega, Kd.R_nil _ _ _ _ _, Below.refl _ _, h, by simp; omega⟩⟩
  case round =>
    obtain ⟨A, c, rest, acc, f, rfl, hh⟩ := hrel
    clear hcv
    obtain ⟨hC0, hc, hR, hB, hu, hlen⟩ := hh.out
    have hC := Kd.C_below hC0 hB
    have HC0 := Lib.hid hC0
    have HBW := Lib.hid HH.out.2.2.2.2.2
    clear hh hC0
    cases f with
    | zero => simp [unpk] at hu
    | succ f =>
    simp only [unpk] at hu
    by_cases h0 : rest.length = 0
    · rw [if_pos h0] at hu
      obtain ⟨rfl, rfl⟩ := Prod.mk.inj (Option.some.inj hu)
      have hz : (rest.length : Int) ≤ 0 := by omega
      have HF := Lib.hid (And.intro hR hB)
      clear hC hc hR hB hu hlen h0
      go_wp2
      go_ret2
      exact ⟨_, rfl, Kd.R_lower HF.out.1 HBW.out.size, below_then HBW.out HBW.out.size HF.out.2⟩
    · rw [if_neg h0] at hu
      obtain ⟨⟨n, at_, ok⟩, hl, hu⟩ := Option.bind_eq_some_iff.1 hu
      simp only at hu
      have hz : 0 < (rest.length : Int) := by omega
      have hl1 : (rest.length : Int) ≤ 1000000000 := by omega
      cases ok with
      | false =>
        rw [if_pos rfl] at hu
        obtain ⟨rfl, rfl⟩ := Prod.mk.inj (Option.some.inj hu)
        have HF := Lib.hid (And.intro hR (And.intro hB (And.intro hC (And.intro hc hl))))
        clear hC hc hR hB hu hlen h0 hl
        go_wp2_with (go_at_call 65; refine (QA.wire_length.calls _ A c rest n at_ false _ HF.out.2.2.1 HF.out.2.2.2.1 HF.out.2.2.2.2).mono ?_; rintro e w' ⟨rfl, ⟨nd, rfl⟩⟩)
        go_ret2
        exact ⟨_, rfl, Kd.R_nil _ _ _ _ _, below_then HBW.out HBW.out.size (pw_below_drewN HF.out.2.1 _)⟩
      | true =>
        rw [if_neg (by simp)] at hu
        by_cases hg : 0 ≤ n ∧ n ≤ 1000000000 ∧ 1 ≤ at_ ∧ at_ ≤ (rest.length : Int)
        case neg => rw [if_neg hg] at hu; cases hu
        rw [if_pos hg] at hu
        obtain ⟨g0, g1, g2, g3⟩ := hg
        by_cases ht : (rest.length : Int) - at_ < n
        · rw [if_pos ht] at hu
          obtain ⟨rfl, rfl⟩ := Prod.mk.inj (Option.some.inj hu)
          have HF := Lib.hid (And.intro hR (And.intro hB (And.intro hC (And.intro hc hl))))
          clear hC hc hR hB hu hlen h0 hl
          go_wp2_with (go_at_call 65; refine (QA.wire_length.calls _ A c rest n at_ true _ HF.out.2.2.1 HF.out.2.2.2.1 HF.out.2.2.2.2).mono ?_; rintro e w' ⟨rfl, ⟨nd, rfl⟩⟩)
          go_ret2
          exact ⟨_, rfl, Kd.R_nil _ _ _ _ _, below_then HBW.out HBW.out.size (pw_below_drewN HF.out.2.1 _)⟩
        · rw [if_neg ht] at hu
          have ht2 : n ≤ (rest.length : Int) - at_ := by omega
          obtain ⟨m, hm⟩ : ∃ m : Int, at_ + n = m := ⟨_, rfl⟩
          have m0 : 0 ≤ m := by omega
          have m1 : at_ ≤ m := by omega
          have m2 : m ≤ (rest.length : Int) := by omega
          have hf := cut3 A rest.length c at_ m (by omega) m1 m2 hc
          obtain ⟨i1, hi1, hzz⟩ := Option.map_eq_some_iff.1 info5
          simp only [Prod.mk.injEq] at hzz
          obtain ⟨A2, hs2, hr2, hc2⟩ := print_cut_int (P := Tryd.prog) (k := .u8) 81 5 Tryd.underlying81 hi1 hzz.2.1 A c rest m m0 m2 hc
          obtain ⟨F, hF⟩ : ∃ F : Option Addr, (if m.toNat = at_.toNat then A else A.map (·.add (at_.toNat * 1))) = F := ⟨_, rfl⟩
          have hfl : ((rest.take m.toNat).drop at_.toNat).length = m.toNat - at_.toNat := by rw [List.length_drop, List.length_take]; omega
          have hrC : ReadsInt wr .u8 A rest.length rest := Kd.reads_of_C (enc := Value.int .u8) (d := (0 : Int)) (h1 := fun _ => rfl) hC
          have hfC : ReadsInt wr .u8 F (m.toNat - at_.toNat) ((rest.take m.toNat).drop at_.toNat) := by
            by_cases he : m.toNat = at_.toNat
            · have hnil : (rest.take m.toNat).drop at_.toNat = [] := List.eq_nil_of_length_eq_zero (by rw [hfl]; omega)
              rw [hnil, show m.toNat - at_.toNat = 0 by omega]
              exact ⟨rfl, by simp, fun h => absurd h (Nat.lt_irrefl 0)⟩
            · have h2 := (hrC.take_ m.toNat (by omega)).drop_ (c := c) at_.toNat (by omega) (by omega)
              rw [if_neg he, Nat.mul_one] at hF
              rw [if_neg (by omega), hF] at h2
              exact h2
          rw [hF] at hf
          have hcvs : ∀ nd, (convert 81 9 (.slice F (m.toNat - at_.toNat) (m.toNat - at_.toNat))).run Tryd.prog (wr.drewN nd) = .ok (.string (strOfNums ((rest.take m.toNat).drop at_.toNat))) (wr.drewN nd) := fun nd =>
            string_of_reads Tryd.underlying81 Tryd.underlying5 Tryd.underlying9 (hfC.drewN nd)
          rw [hm] at hu
          generalize strOfNums ((rest.take m.toNat).drop at_.toNat) = x at hcvs hu
          have hdl : (rest.drop m.toNat).length < rest.length := by rw [List.length_drop]; omega
          have hdl2 : (rest.drop m.toNat).length + 1 ≤ rest.length := hdl
          have HF := Lib.hid (And.intro hR (And.intro hB (And.intro hC (And.intro hc (And.intro hl (And.intro hu (And.intro (Kd.C_of_reads (enc := Value.int .u8) (d := (0 : Int)) (h1 := fun _ => rfl) (hr2 W1 (Kd.reads_of_C (enc := Value.int .u8) (d := (0 : Int)) (h1 := fun _ => rfl) HC0.out))) (And.intro hc2 (And.intro hdl hlen)))))))))
          clear hR hB hC hc hl hu hlen h0 hrC hfC hF hfl hr2 hc2 hdl hdl2 hzz hi1 ht
          go_wp2_with (first
            | (go_at_call 65; refine (QA.wire_length.calls _ A c rest n at_ true _ HF.out.2.2.1 HF.out.2.2.2.1 HF.out.2.2.2.2.1).mono ?_; rintro e w' ⟨rfl, ⟨nd, rfl⟩⟩)
            | (at_builtin; refine Kd.R_append Kd.string (w0 := W1) W1.heap.size rfl (.tmp 38) (.tmp 41) 62 9 (.string ⟨#[]⟩) 16 rfl Tryd.underlying62 info9 rfl (by decide) (by omega) u5 acc x [.string x] (fun _ => True) (fun _ => False) rfl rfl ?aP (fun _ hk => hk.elim) ?aF ?aO ?aB ?aS ?aL ?_; (case aP => exact rfl); (case aB => exact pw_below_drewN HF.out.2.1 _); (case aF => exact (fun _ _ => trivial)); (case aO => exact HF.out.1); (case aS => exact (pw_below_drewN HF.out.2.1 _).size); (case aL => exact (by have := HF.out.2.2.2.2.2.2.2.2.2; omega)); intro v2 w2 ho hb hg hat; have HO := Lib.hid ho; have HB := Lib.hid hb; have HG := Lib.hid hg; clear ho hb hg hat))
          obtain ⟨_, _, _, _, _, hu, hC2, hc2, hdl, hlen⟩ := HF.out
          refine ⟨⟨A2, c - m.toNat, rest.drop m.toNat, acc ++ [x], f, by rw [List.length_drop], Lib.hid ⟨hC2, hc2, HO.out, HB.out, hu, ?_⟩⟩, ?_⟩
          · rw [List.length_append, List.length_singleton]
            omega
          · show rest.length - m.toNat < rest.length
            rw [List.length_drop] at hdl
            exact hdl
end Go.Proofs.YtkfgnjdchnpjeaaDoor

