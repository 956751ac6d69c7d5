/- MsgEnc: what the law MessageOnce asks of it. -/
import Derived.Test.YthmlibimhdeocaaDoorOnUnpack
namespace Go.Proofs.YthmlibimhdeocaaDoor
open Go.RowKit Go.Proofs.YthmlibimhdeocaaDoorW.PrintWords
set_option linter.unusedVariables false
set_option linter.unusedSimpArgs false

theorem int_calls (a0 : Int) (r : ByteArray) (w : World) (HTab_ : TabW w) (h : strconv_Itoa.f a0 = some r) :
    Calls Tryd.prog 35 #[.int .i64 a0] w fun e w' => e = .returned (.string r) ∧ Below w.heap.size w w' := by
  go_enter Tryd.func35, Tryd.ntmps35
  go_wp2_with (go_at_call 53; refine (strconv_Itoa.calls a0 r _ HTab_ h).mono ?_; rintro e w' ⟨rfl, hb⟩)
  go_ret
  exact ⟨rfl, hb⟩
def message_Encode.f (a0 : ByteArray) (a1 a2 a3 a4 a5 : Int) (a6 : ByteArray) : Option ByteArray :=
  (strconv_Itoa.f a1).bind fun t1 => (strconv_Itoa.f a2).bind fun t2 => (strconv_Itoa.f a3).bind fun t3 => (strconv_Itoa.f a4).bind fun t4 => (strconv_Itoa.f a5).bind fun t5 => wire_Pack.f [a0, t1, t2, t3, t4, t5, a6]
set_option maxHeartbeats 4000000 in
set_option maxRecDepth 100000 in
theorem message_Encode.calls (a0_0 : ByteArray) (a0_1 a0_2 a0_3 a0_4 a0_5 : Int) (a0_6 : ByteArray) (r : ByteArray) (w : World) (HTab_ : TabW w) (h : message_Encode.f a0_0 a0_1 a0_2 a0_3 a0_4 a0_5 a0_6 = some r) :
    Calls Tryd.prog 14 #[.agg #[.string a0_0, .int .i64 a0_1, .int .i64 a0_2, .int .i64 a0_3, .int .i64 a0_4, .int .i64 a0_5, .string a0_6]] w fun e w' => e = .returned (.string r) ∧ Below w.heap.size w w' := by
  unfold message_Encode.f at h
  obtain ⟨t1, h1, g1⟩ := Option.bind_eq_some_iff.1 h
  obtain ⟨t2, h2, g2⟩ := Option.bind_eq_some_iff.1 g1
  obtain ⟨t3, h3, g3⟩ := Option.bind_eq_some_iff.1 g2
  obtain ⟨t4, h4, g4⟩ := Option.bind_eq_some_iff.1 g3
  obtain ⟨t5, h5, g5⟩ := Option.bind_eq_some_iff.1 g4
  have HT := Lib.hid HTab_
  have HH := Lib.hid (And.intro h1 (And.intro h2 (And.intro h3 (And.intro h4 (And.intro h5 g5)))))
  clear h1 h2 h3 h4 h5 h HTab_ g1 g2 g3 g4 g5
  obtain ⟨cs, hcs⟩ : ∃ cs : Array Value, cs = #[.string a0_0, .int .i64 a0_1, .int .i64 a0_2, .int .i64 a0_3, .int .i64 a0_4, .int .i64 a0_5, .string a0_6] := ⟨_, rfl⟩
  go_enter Tryd.func14, Tryd.ntmps14
  go_wp2
  go_loopw [3, 20] (fun v3 v20 wr => ∃ i : Nat, v20 = .int .i64 i ∧ Hid (i ≤ 5 ∧ Kd.R Kd.string 9 wr (w.alloc (.cells cs 23)).heap.size (fun _ => True) v3 (a0_0 :: [t1, t2, t3, t4, t5].take i) ∧ Below (w.alloc (.cells cs 23)).heap.size (w.alloc (.cells cs 23)) wr)) (fun _ v20 _ => 5 - (intOf v20).toNat)
  case atStart =>
    subst hcs
    have ho := World.ownsRow_lit (base := w.heap.size + 1) (e := 9) (size := 1) (w.alloc (.cells #[.string a0_0, .int .i64 a0_1, .int .i64 a0_2, .int .i64 a0_3, .int .i64 a0_4, .int .i64 a0_5, .string a0_6] 23)) #[.string a0_0] 1 (by simp) (by decide) rfl
    exact ⟨0, rfl, Lib.hid ⟨by omega, Kd.R_of_own (enc := Value.string) (h1 := fun _ => rfl) (xs := [a0_0]) (show _ from by simpa [encs] using ho) (fun _ _ => trivial), below_alloc (Below.refl _ _) _⟩⟩
  case round =>
    obtain ⟨i, rfl, hh⟩ := hrel
    obtain ⟨hi, hR, hB⟩ := hh.out
    have hbw : Below w.heap.size w wr := below_then (below_alloc (Below.refl _ _) _) (by rw [World.size_alloc]; omega) hB
    clear hh
    by_cases hlt : i < 5
    · have key : ∃ n t, strconv_Itoa.f n = some t ∧ (∀ W, (Instr.index 48 (.agg #[.int .i64 a0_1, .int .i64 a0_2, .int .i64 a0_3, .int .i64 a0_4, .int .i64 a0_5]) (.int .i64 (i : Int))).run Tryd.prog W = .ok (.int .i64 n) W) ∧ (a0_0 :: [t1, t2, t3, t4, t5].take (i + 1)) = (a0_0 :: [t1, t2, t3, t4, t5].take i) ++ [t] := by
        obtain ⟨h1, h2, h3, h4, h5, -⟩ := HH.out
        rcases i with _ | _ | _ | _ | _ | i
        · exact ⟨_, _, h1, fun W => by rfl, rfl⟩
        · exact ⟨_, _, h2, fun W => by rfl, rfl⟩
        · exact ⟨_, _, h3, fun W => by rfl, rfl⟩
        · exact ⟨_, _, h4, fun W => by rfl, rfl⟩
        · exact ⟨_, _, h5, fun W => by rfl, rfl⟩
        · omega
      obtain ⟨n, t, hn, hidx, ht⟩ := key
      have hlt2 : (i : Int) < 5 := by omega
      have hll : (a0_0 :: [t1, t2, t3, t4, t5].take i).length < 10 := by simp; omega
      generalize hxs : (a0_0 :: [t1, t2, t3, t4, t5].take i) = xs at hR ht hll
      have HF := Lib.hid (And.intro hR (And.intro hB (And.intro hbw (And.intro hn (And.intro hll ht)))))
      clear hR hB hbw hn ht hll hxs
      go_wp2_with (first
        | (go_at_call 35; refine (int_calls n t _ (HT.out.below HF.out.2.2.1) HF.out.2.2.2.1).mono ?_; rintro e w' ⟨rfl, hb1⟩; have HB1 := Lib.hid hb1; clear hb1)
        | (at_builtin; refine Kd.R_append Kd.string (w0 := (w.alloc (.cells cs 23))) (w.alloc (.cells cs 23)).heap.size rfl (.tmp 23) (.tmp 26) 45 9 (.string ⟨#[]⟩) 16 rfl Tryd.underlying45 info9 rfl (by decide) (by omega) u3 xs t [.string t] (fun _ => True) (fun _ => False) rfl rfl ?aP (fun _ hk => hk.elim) ?aF ?aO ?aB ?aS ?aL ?_; (case aP => exact rfl); (case aB => exact below_then HF.out.2.1 HF.out.2.1.size HB1.out); (case aF => exact (fun _ _ => trivial)); (case aO => exact Kd.R_below HF.out.1 HB1.out); (case aS => exact Nat.le_trans HF.out.2.1.size HB1.out.size); (case aL => exact (by have := HF.out.2.2.2.2.1; omega)); intro v2 w2 ho hb hg hat; have HO := Lib.hid ho; have HB := Lib.hid hb; clear ho hb hg hat))
      refine ⟨⟨i + 1, ?_, Lib.hid ⟨by omega, ?_, HB.out⟩⟩, ?_⟩
      · rw [show ((i : Int) + 1) = ((i + 1 : Nat) : Int) by omega]
      · rw [HF.out.2.2.2.2.2]; exact HO.out
      · simp only [intOf]
        omega
    · obtain rfl : i = 5 := by omega
      have hz : ¬ ((5 : Nat) : Int) < 5 := by omega
      have hblk : (w.alloc (.cells cs 23)).heap[w.heap.size]? = some (.cells cs 23 (0, 0)) := heap_alloc_new w _
      have hc0 : (w.alloc (.cells cs 23)).cell? ⟨w.heap.size, 6, none⟩ = some (.string a0_6) := by rw [blk_cell hblk, hcs]; rfl
      have hc6 : wr.cell? ⟨w.heap.size, 6, none⟩ = some (.string a0_6) := (hB.cell (World.block_lt_of_cell? _ _ hc0)).trans hc0
      have HF := Lib.hid (And.intro hR (And.intro hB hbw))
      clear hR hB hbw hblk hc0 hlt
      go_wp2_with (first
        | (go_at_call 36; refine (wire_Pack.calls Ax cx [a0_0, t1, t2, t3, t4, t5, a0_6] r _ (Kd.R_reads' HO.out).2.2 (Kd.R_reads' HO.out).2.1 (HT.out.below HB2.out) HH.out.2.2.2.2.2).mono ?_; rintro e w' ⟨rfl, hb1⟩; have HB1 := Lib.hid hb1; clear hb1)
        | (at_builtin; refine Kd.R_append Kd.string (w0 := (w.alloc (.cells cs 23))) (w.alloc (.cells cs 23)).heap.size rfl (.tmp 29) (.tmp 32) 45 9 (.string ⟨#[]⟩) 16 rfl Tryd.underlying45 info9 rfl (by decide) (by omega) u3 [a0_0, t1, t2, t3, t4, t5] a0_6 [.string a0_6] (fun _ => True) (fun _ => False) rfl rfl ?aP (fun _ hk => hk.elim) ?aF ?aO ?aB ?aS ?aL ?_; (case aP => exact rfl); (case aB => exact HF.out.2.1); (case aF => exact (fun _ _ => trivial)); (case aO => exact HF.out.1); (case aS => exact HF.out.2.1.size); (case aL => exact (by simp)); intro v2 w2 ho hb hg hat; obtain ⟨Ax, cx, rfl⟩ := Kd.R_slice ho; have HO := Lib.hid ho; have HB2 := Lib.hid (show Below w.heap.size w w2 from below_then (below_alloc (Below.refl _ _) _) (by rw [World.size_alloc]; omega) hb); clear ho hb hg hat))
      go_ret
      exact ⟨rfl, below_then HB2.out HB2.out.size HB1.out⟩
end Go.Proofs.YthmlibimhdeocaaDoor

