/- MsgLive: what the law MessageOnce asks of it. -/
import Derived.Test.YthmlibimhdeocaaDoorOnMsgMiss
import Derived.Test.YthmlibimhdeocaaDoorOnMsgEnc
import Derived.Test.YthmlibimhdeocaaDoorOnMsgDec
import Derived.KernelRfl
namespace Go.Proofs.YthmlibimhdeocaaDoor
open Go.RowKit Go.Shelf Go.Lib Go.Proofs.YthmlibimhdeocaaDoor.QD Go.Proofs.YthmlibimhdeocaaDoorW.PrintWords
set_option linter.unusedVariables false
set_option linter.unusedSimpArgs false

def message_Check.f (a0 : ByteArray) (a1 a2 a3 a4 a5 : Int) (a6 : ByteArray) : Option Int := QB.message_Check.f 5000 a0 a1 a2 a3 a4 a5 a6
theorem message_Check.calls (a0_0 : ByteArray) (a0_1 a0_2 a0_3 a0_4 a0_5 : Int) (a0_6 : ByteArray) (r : Int) (w : World) (h : message_Check.f a0_0 a0_1 a0_2 a0_3 a0_4 a0_5 a0_6 = some r) :
    Calls Tryd.prog 12 #[.agg #[.string a0_0, .int .i64 a0_1, .int .i64 a0_2, .int .i64 a0_3, .int .i64 a0_4, .int .i64 a0_5, .string a0_6]] w fun e w' => e = .returned (.int .i64 r) ∧ Below w.heap.size w w' :=
  QB.message_Check.calls 5000 a0_0 a0_1 a0_2 a0_3 a0_4 a0_5 a0_6 r w h
abbrev bNet : ByteArray := ⟨#[110, 101, 116]⟩
abbrev bA : ByteArray := ⟨#[97]⟩
/-- credit. -/
abbrev crM (n : Int) : S23 := ⟨bNet, n, 1, 1000, 5, 3, bA⟩
set_option maxRecDepth 100000 in
theorem ev_check : message_Check.f bNet 0 1 1000 5 3 bA = some 1 := by kernel_rfl
set_option maxRecDepth 100000 in
theorem ev_r1 : message_Receive.f [] bNet 1 1 1000 5 3 bA = some ([crM 1], true, 0) := by kernel_rfl
set_option maxRecDepth 100000 in
theorem ev_r2 : message_Receive.f [crM 1] bNet 4 1 1000 5 3 bA = some ([crM 1, crM 4], true, 0) := by kernel_rfl
set_option maxRecDepth 100000 in
theorem ev_r3 : message_Receive.f [crM 1, crM 4] bNet 2 1 1000 5 3 bA = some ([crM 1, crM 2, crM 4], true, 0) := by kernel_rfl
set_option maxRecDepth 100000 in
theorem ev_r4 : message_Receive.f [crM 1, crM 2, crM 4] bNet 4 1 1000 5 3 bA = some ([crM 1, crM 2, crM 4], false, 0) := by kernel_rfl
set_option maxRecDepth 100000 in
theorem ev_r5 : message_Receive.f [crM 1, crM 2, crM 4] bNet 4 1 1000 6 3 bA = some ([], false, 13) := by kernel_rfl
set_option maxRecDepth 100000 in
theorem ev_miss : message_Missing.f [crM 1, crM 2, crM 4] bNet = some [3] := by kernel_rfl
set_option maxRecDepth 100000 in
theorem ev_dec : message_Decode.f ⟨#[49, 58, 97]⟩ = some (⟨#[]⟩, 0, 0, 0, 0, 0, ⟨#[]⟩, 25) := by kernel_rfl
set_option maxRecDepth 100000 in
theorem ev_code : (message_Encode.f bNet 4 1 1000 6 3 bA).bind message_Decode.f = some (bNet, 4, 1, 1000, 6, 3, bA, 0) := by kernel_rfl
set_option maxRecDepth 100000 in
theorem ev_same : QB.corebankref07_SameInts.f 100 [3] [3] = some true := by kernel_rfl
theorem credit_calls (n : Int) (w : World) : Calls Tryd.prog 39 #[.int .i64 n] w fun e w' => e = .returned (.agg #[.string bNet, .int .i64 n, .int .i64 1, .int .i64 1000, .int .i64 5, .int .i64 3, .string bA]) ∧ Below w.heap.size w w' := by
  have hu23 := Tryd.underlying23
  go_enter Tryd.func39, Tryd.ntmps39
  go_wp2
  refine bodyPost_ret (results_single rfl (.cell w.heap.size 23 #[.string bNet, .int .i64 n, .int .i64 1, .int .i64 1000, .int .i64 5, .int .i64 3, .string bA] (0, 0) _ rfl (heap_alloc_new w _) Tryd.underlying23 rfl (by kernel_rfl) .nil)) rfl ?_
  exact ⟨rfl, below_alloc (Below.refl _ _) _⟩
theorem eqlM (x y : S23) (w : World) : (binOp .eql 23 (.agg #[.string x.f0, .int .i64 x.f1, .int .i64 x.f2, .int .i64 x.f3, .int .i64 x.f4, .int .i64 x.f5, .string x.f6]) (.agg #[.string y.f0, .int .i64 y.f1, .int .i64 y.f2, .int .i64 y.f3, .int .i64 y.f4, .int .i64 y.f5, .string y.f6])).run Tryd.prog w = .ok (.bool (sameM x y)) w := by
  have h := eqM 9998 w x.f0 y.f0 x.f1 y.f1 x.f2 y.f2 x.f3 y.f3 x.f4 y.f4 x.f5 y.f5 x.f6 y.f6
  simp only [Nat.reduceAdd] at h
  rw [← equal_in] at h
  unfold sameM
  simp [binOp, h, Result.andThen]
theorem eql_live (w : World) : (binOp .eql 23 (.agg #[.string bNet, .int .i64 4, .int .i64 1, .int .i64 1000, .int .i64 6, .int .i64 3, .string bA]) (.agg #[.string bNet, .int .i64 4, .int .i64 1, .int .i64 1000, .int .i64 6, .int .i64 3, .string bA])).run Tryd.prog w = .ok (.bool true) w :=
  (eqlM ⟨bNet, 4, 1, 1000, 6, 3, bA⟩ ⟨bNet, 4, 1, 1000, 6, 3, bA⟩ w).trans (by rw [show sameM ⟨bNet, 4, 1, 1000, 6, 3, bA⟩ ⟨bNet, 4, 1, 1000, 6, 3, bA⟩ = true by simp [sameM]])
/-- A row's value, its length written out. -/
theorem live_row {w : World} {base : Nat} {v : Value} {l : List S23} (n : Nat) (hn : l.length = n) (h : Kd.R k23 23 w base (fun _ => True) v l) : ∃ A c, v = .slice A n c ∧ n ≤ c ∧ Kd.C k23 w A n l := by
  obtain ⟨A, c, h1, h2, h3⟩ := Kd.R_reads h
  subst hn
  exact ⟨A, c, h1, h2, h3⟩
theorem live_ints {w : World} {base : Nat} {v : Value} {l : List Int} (n : Nat) (hn : l.length = n) (h : Kd.R (Kd.int .i64) 3 w base (fun _ => True) v l) : ∃ A c, v = .slice A n c ∧ n ≤ c ∧ Kd.C (Kd.int .i64) w A n l := by
  obtain ⟨A, c, h1, h2, h3⟩ := Kd.R_reads h
  subst hn
  exact ⟨A, c, h1, h2, h3⟩
theorem recv_at (A0 : Option Addr) (c0 n : Nat) (l0 : List S23) (m : S23) (hn : l0.length = n) (r1 : List S23) (k : Nat) (hk : r1.length = k) (r2 : Bool) (r3 : Int) (w : World) (hr0 : Kd.C k23 w A0 n l0) (hc0 : n ≤ c0)
    (h : message_Receive.f l0 m.f0 m.f1 m.f2 m.f3 m.f4 m.f5 m.f6 = some (r1, r2, r3)) :
    Calls Tryd.prog 18 #[.slice A0 n c0, .agg #[.string m.f0, .int .i64 m.f1, .int .i64 m.f2, .int .i64 m.f3, .int .i64 m.f4, .int .i64 m.f5, .string m.f6]] w fun e w' =>
      ∃ A c, e = .returned (.tuple #[.slice A k c, .bool r2, .int .i64 r3]) ∧ k ≤ c ∧ Kd.C k23 w' A k r1 ∧ Below w.heap.size w w' := by
  subst hn
  refine (message_Receive.calls A0 c0 l0 m.f0 m.f1 m.f2 m.f3 m.f4 m.f5 m.f6 r1 r2 r3 w hr0 hc0 h).mono ?_
  rintro e w' ⟨v, h1, h2, h3⟩
  obtain ⟨A, c, rfl, h5, h6⟩ := live_row k hk h2
  exact ⟨A, c, h1, h5, h6, h3⟩
theorem nilC (w : World) : Kd.C k23 w none 0 [] := (Kd.R_reads' (Kd.R_nil k23 23 w 0 (fun _ => True))).2.2
theorem bel1 {w W W' : World} (h : Below w.heap.size w W) (h2 : Below W.heap.size W W') : Below w.heap.size w W' := below_then h h.size h2
theorem live_drawn {w W W' : World} (h : Below w.heap.size w W) (hd : Drawn0 W W') : Below w.heap.size w W' := by
  obtain ⟨m, rfl⟩ := hd
  exact ⟨h.os, h.tape, h.output, h.size, h.block⟩
theorem live_drawn_blk {W W' : World} {g : Nat} {o : Obj} (h : W.heap[g]? = some o) (hd : Drawn0 W W') : W'.heap[g]? = some o := by
  obtain ⟨m, rfl⟩ := hd
  exact h
theorem lit_int (w : World) (x : Int) : Kd.C (Kd.int .i64) (w.alloc (.cells #[.int .i64 x] 3)) (some ⟨w.heap.size, 0, none⟩) 1 [x] := by
  refine ⟨rfl, by omega, fun _ => ⟨_, rfl, fun j p hj => ?_⟩⟩
  cases j with
  | succ j => simp at hj
  | zero =>
    obtain rfl : x = p := by simpa using hj
    refine ⟨[.int .i64 x], rfl, rfl, fun i u hi => ?_⟩
    rw [Addr.add_lit, blk_cell (heap_alloc_new w _)]
    simpa using hi
/-- The message x. -/
abbrev xM : S23 := ⟨bNet, 4, 1, 1000, 6, 3, bA⟩
def corebanklaw43_live.f : Option Bool := some true
set_option maxHeartbeats 4000000 in
set_option maxRecDepth 100000 in
theorem corebanklaw43_live.calls (r : Bool) (w : World) (HTab_ : TabW w) (h : corebanklaw43_live.f = some r) : Calls Tryd.prog 16 #[] w fun e w' => e = .returned (.bool r) ∧ Below w.heap.size w w' := by
  obtain rfl := Option.some.inj h
  clear h
  have hu23 := Tryd.underlying23
  have HT := Lib.hid HTab_
  have HB := Lib.hid (Below.refl w.heap.size w)
  obtain ⟨sE, hE, hD⟩ := Option.bind_eq_some_iff.1 ev_code
  have HE := Lib.hid (And.intro hE hD)
  have hql := eql_live
  clear HTab_ hE hD
  go_enter Tryd.func16, Tryd.ntmps16
  go_wp2_with (first
    | (go_at_call 39; go_loud (refine (credit_calls _ _).mono ?_; rintro e' wc ⟨rfl, hb⟩; (first | replace HC := Lib.hid (And.intro (Kd.C_below HC.out.1 hb) HC.out.2) | skip); (first | replace HM := Lib.hid (And.intro (Kd.C_below HM.out.1 hb) HM.out.2) | skip); replace HB := Lib.hid (bel1 HB.out hb); clear hb))
    | (go_at_call 18; (with_reducible show Calls _ _ #[.slice none 0 0, _] _ _); refine (recv_at none 0 0 [] (crM 1) rfl [crM 1] 1 rfl true 0 _ (nilC _) (Nat.le_refl _) ev_r1).mono ?_; rintro e' w1 ⟨A1, c1, rfl, hc1, hC1, hb⟩; (first | replace HC := Lib.hid (And.intro (Kd.C_below HC.out.1 hb) HC.out.2) | skip); (first | replace HM := Lib.hid (And.intro (Kd.C_below HM.out.1 hb) HM.out.2) | skip); replace HB := Lib.hid (bel1 HB.out hb); clear hb; (first | clear HC | skip); have HC := Lib.hid (And.intro hC1 hc1); clear hC1 hc1)
    | (go_at_call 18; (with_reducible show Calls _ _ #[.slice _ 1 _, _] _ _); refine (recv_at A1 c1 1 [crM 1] (crM 4) rfl [crM 1, crM 4] 2 rfl true 0 _ HC.out.1 HC.out.2 ev_r2).mono ?_; rintro e' w2 ⟨A2, c2, rfl, hc2, hC2, hb⟩; (first | replace HC := Lib.hid (And.intro (Kd.C_below HC.out.1 hb) HC.out.2) | skip); (first | replace HM := Lib.hid (And.intro (Kd.C_below HM.out.1 hb) HM.out.2) | skip); replace HB := Lib.hid (bel1 HB.out hb); clear hb; (first | clear HC | skip); have HC := Lib.hid (And.intro hC2 hc2); clear hC2 hc2)
    | (go_at_call 18; (with_reducible show Calls _ _ #[.slice _ 2 _, _] _ _); refine (recv_at A2 c2 2 [crM 1, crM 4] (crM 2) rfl [crM 1, crM 2, crM 4] 3 rfl true 0 _ HC.out.1 HC.out.2 ev_r3).mono ?_; rintro e' w3 ⟨A3, c3, rfl, hc3, hC3, hb⟩; (first | replace HC := Lib.hid (And.intro (Kd.C_below HC.out.1 hb) HC.out.2) | skip); (first | replace HM := Lib.hid (And.intro (Kd.C_below HM.out.1 hb) HM.out.2) | skip); replace HB := Lib.hid (bel1 HB.out hb); clear hb; (first | clear HC | skip); have HC := Lib.hid (And.intro hC3 hc3); clear hC3 hc3)
    | (go_at_call 18; (with_reducible show Calls _ _ #[.slice _ 3 _, .agg #[_, _, _, _, .int _ 5, _, _]] _ _); refine (recv_at A3 c3 3 [crM 1, crM 2, crM 4] (crM 4) rfl [crM 1, crM 2, crM 4] 3 rfl false 0 _ HC.out.1 HC.out.2 ev_r4).mono ?_; rintro e' w4 ⟨A4, c4, rfl, hc4, hC4, hb⟩; (first | replace HC := Lib.hid (And.intro (Kd.C_below HC.out.1 hb) HC.out.2) | skip); (first | replace HM := Lib.hid (And.intro (Kd.C_below HM.out.1 hb) HM.out.2) | skip); replace HB := Lib.hid (bel1 HB.out hb); clear hb; have HM := Lib.hid (And.intro hC4 hc4); clear hC4 hc4)
    | (go_at_call 18; (with_reducible show Calls _ _ #[.slice _ 3 _, .agg #[_, _, _, _, .int _ 6, _, _]] _ _); go_loud (refine (recv_at A3 c3 3 [crM 1, crM 2, crM 4] xM rfl [] 0 rfl false 13 _ (Kd.C_below HC.out.1 (below_alloc (Below.refl _ _) _)) HC.out.2 ev_r5).mono ?_; rintro e' w5 ⟨A5, c5, rfl, hc5, hC5, hb⟩; have hb' := below_then (below_alloc (Below.refl wc.heap.size wc) _) (by rw [World.size_alloc]; omega) hb; have HX := Lib.hid (show w5.heap[wc.heap.size]? = some (.cells (encM xM).toArray 23 (0, 0)) from (hb.block wc.heap.size (by rw [World.size_alloc]; omega)).trans (heap_alloc_new wc _)); replace HM := Lib.hid (And.intro (Kd.C_below HM.out.1 hb') HM.out.2); replace HB := Lib.hid (bel1 HB.out hb'); clear hC5 hc5 HC; obtain ⟨b0, b1, b2, b3, b4, b5, b6⟩ := box_cells HX.out; clear hb hb'))
    | (go_at_call 14; go_loud (refine (message_Encode.calls bNet 4 1 1000 6 3 bA sE _ (HT.out.below HB.out) HE.out.1).mono ?_; rintro e' w6 ⟨rfl, hb⟩; replace HX := Lib.hid ((hb.block _ (blk_lt HX.out)).trans HX.out); obtain ⟨b0, b1, b2, b3, b4, b5, b6⟩ := box_cells HX.out; replace HM := Lib.hid (And.intro (Kd.C_below HM.out.1 hb) HM.out.2); replace HB := Lib.hid (bel1 HB.out hb); clear hb))
    | (go_at_call 10; (with_reducible show Calls _ _ #[.string sE] _ _); go_loud (refine (message_Decode.calls sE bNet 4 1 1000 6 3 bA 0 _ (HT.out.below HB.out) HE.out.2).mono ?_; rintro e' w7 ⟨rfl, hb⟩; replace HX := Lib.hid ((hb.block _ (blk_lt HX.out)).trans HX.out); obtain ⟨b0, b1, b2, b3, b4, b5, b6⟩ := box_cells HX.out; replace HM := Lib.hid (And.intro (Kd.C_below HM.out.1 hb) HM.out.2); replace HB := Lib.hid (bel1 HB.out hb); clear hb))
    | (go_at_call 10; go_loud (refine (message_Decode.calls ⟨#[49, 58, 97]⟩ ⟨#[]⟩ 0 0 0 0 0 ⟨#[]⟩ 25 _ (HT.out.below (Below.alloc HB.out HB.out.size _)) ev_dec).mono ?_; rintro e' w8 ⟨rfl, hb⟩; have hb' := below_then (below_alloc (Below.refl w7.heap.size w7) _) (by rw [World.size_alloc]; omega) hb; have HY := Lib.hid (show w8.heap[w7.heap.size]? = some (.cells (encM xM).toArray 23 (0, 0)) from (hb.block w7.heap.size (by rw [World.size_alloc]; omega)).trans (heap_alloc_new w7 _)); replace HX := Lib.hid ((hb'.block _ (blk_lt HX.out)).trans HX.out); obtain ⟨b0, b1, b2, b3, b4, b5, b6⟩ := box_cells HX.out; obtain ⟨d0, d1, d2, d3, d4, d5, d6⟩ := box_cells HY.out; replace HM := Lib.hid (And.intro (Kd.C_below HM.out.1 hb') HM.out.2); replace HB := Lib.hid (bel1 HB.out hb'); clear hb hb'; obtain ⟨ad, ead, hx0, hx1, hx2, hx3, hx4, hx5, hx6⟩ := at_T23 HM.out.1 1 (by decide) (by decide); cases ead; rw [show Int.toNat 1 * 7 = 7 from rfl] at hx1; have hz1 : ∀ o, (w8.alloc o).cell? ⟨ad.block, ad.off + 7 + 1, none⟩ = some (.int .i64 2) := fun o => Lib.cell?_alloc_some o hx1; clear hx0 hx1 hx2 hx3 hx4 hx5 hx6))
    | (go_at_call 21; go_loud (refine (message_Missing.calls _ c4 [crM 1, crM 2, crM 4] bNet [3] _ (Kd.C_below HM.out.1 (below_alloc (Below.refl _ _) _)) HM.out.2 ev_miss).mono ?_; rintro e' w9 ⟨v9, rfl, hR9, hb⟩; obtain ⟨A9, c9, rfl, hc9, hC9⟩ := live_ints 1 rfl hR9; have hb' := below_then (below_alloc (Below.refl w8.heap.size w8) _) (by rw [World.size_alloc]; omega) hb; have HN := Lib.hid (And.intro hC9 hc9); replace HX := Lib.hid ((hb'.block _ (blk_lt HX.out)).trans HX.out); replace HY := Lib.hid ((hb'.block _ (blk_lt HY.out)).trans HY.out); replace HB := Lib.hid (bel1 HB.out hb'); clear hb hb' hR9 hC9 hc9))
    | (go_at_call 22; go_loud (refine (QB.corebankref07_SameInts.calls 100 A9 c9 [3] (some ⟨w9.heap.size, 0, none⟩) 1 [3] true _ (Kd.C_below HN.out.1 (below_alloc (Below.refl _ _) _)) HN.out.2 (lit_int w9 3) (Nat.le_refl _) ev_same).mono ?_; rintro e' wd ⟨rfl, hd⟩; have hb' := live_drawn (Below.alloc HB.out HB.out.size _) hd; obtain ⟨b0, b1, b2, b3, b4, b5, b6⟩ := box_cells (live_drawn_blk (blk_alloc HX.out _) hd); obtain ⟨d0, d1, d2, d3, d4, d5, d6⟩ := box_cells (live_drawn_blk (blk_alloc HY.out _) hd); replace HB := Lib.hid hb'; clear hb' hd))
    | (go_at_call 12; go_loud (refine (message_Check.calls bNet 0 1 1000 5 3 bA 1 _ ev_check).mono ?_; rintro e' wf ⟨rfl, hb⟩; replace HB := Lib.hid (bel1 HB.out hb); clear hb)))
  go_ret
  exact ⟨rfl, HB.out⟩
end Go.Proofs.YthmlibimhdeocaaDoor

