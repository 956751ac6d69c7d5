/- EntEnc: what the law EntryCodes asks of it. -/
import Derived.Test.YtkfgnjdchnpjeaaDoorEoUnpack
import Derived.Test.YtkfgnjdchnpjeaaDoorEoQDx3
import Derived.Deep.RegionHeld3
namespace Go.Proofs.YtkfgnjdchnpjeaaDoor
open Go.RowKit Go.Proofs.YtkfgnjdchnpjeaaDoor.QD Go.Proofs.YtkfgnjdchnpjeaaDoorW.PrintWords
set_option linter.unusedVariables false
set_option linter.unusedSimpArgs false

theorem int_calls (a0 : Int) (r : ByteArray) (w : World) (HTab_ : TabW w) (h : strconv_Itoa.f a0 = some r) :
    Calls Tryd.prog 53 #[.int .i64 a0] w fun e w' => e = .returned (.string r) ∧ Below w.heap.size w w' := by
  go_enter Tryd.func53, Tryd.ntmps53
  go_wp2_with (go_at_call 72; refine (strconv_Itoa.calls a0 r _ HTab_ h).mono ?_; rintro e w' ⟨rfl, hb⟩)
  go_ret
  exact ⟨rfl, hb⟩
/-- A leg's encoding, and those of legs. -/
def legT (x : S46) : Option ByteArray := (strconv_Itoa.f x.f0).bind fun t1 => (strconv_Itoa.f x.f1).bind fun t2 => wire_Pack.f [t1, t2, x.f2]
def legsT : List S46 → List ByteArray → Option (List ByteArray)
  | [], acc => some acc
  | x :: r, acc => (legT x).bind fun t => legsT r (acc ++ [t])
def entry_Encode.f (a0 a1 a2 a3 a4 a5 : Int) (a6 a7 : ByteArray) (l : List S46) (a9 : Int) : Option ByteArray :=
  if l.length ≤ 100000 then (legsT l []).bind fun ts => (strconv_Itoa.f a0).bind fun t0 => (strconv_Itoa.f a1).bind fun t1 => (strconv_Itoa.f a2).bind fun t2 => (strconv_Itoa.f a3).bind fun t3 => (strconv_Itoa.f a4).bind fun t4 => (strconv_Itoa.f a5).bind fun t5 => (wire_Pack.f ts).bind fun p => wire_Pack.f [t0, t1, t2, t3, t4, t5, a6, a7, p] else none
theorem legsT_app : ∀ (a b : List S46) (acc : List ByteArray), legsT (a ++ b) acc = (legsT a acc).bind fun t => legsT b t
  | [], b, acc => rfl
  | x :: r, b, acc => by
    simp only [List.cons_append, legsT]
    cases legT x with
    | none => rfl
    | some t => simp only [Option.bind_some]; exact legsT_app r b _
theorem legsT_len : ∀ (a : List S46) (acc ts : List ByteArray), legsT a acc = some ts → ts.length = acc.length + a.length
  | [], acc, ts, h => by
    obtain rfl := Option.some.inj h
    rfl
  | x :: r, acc, ts, h => by
    obtain ⟨t, ht, h⟩ := Option.bind_eq_some_iff.1 (show (legT x).bind (fun t => legsT r (acc ++ [t])) = some ts from h)
    have := legsT_len r _ ts h
    simp only [List.length_append, List.length_cons, List.length_nil] at this ⊢
    omega
/-- The encodings of a row's beginning, and of the leg behind it. -/
theorem legsT_at (l : List S46) (i : Nat) (hi : i < l.length) {ts us : List ByteArray} (h : legsT l [] = some ts) (hu : legsT (l.take i) [] = some us) :
    ∃ t, legT (rd_T46 l (i : Int)) = some t ∧ legsT (l.take (i + 1)) [] = some (us ++ [t]) := by
  have e : l.take (i + 1) = l.take i ++ [rd_T46 l (i : Int)] := by
    rw [List.take_add_one, List.getElem?_eq_getElem hi]
    unfold rd_T46
    rw [List.getD_eq_getElem?_getD, Int.toNat_natCast, List.getElem?_eq_getElem hi]
    rfl
  have e2 : l = l.take (i + 1) ++ l.drop (i + 1) := (List.take_append_drop _ _).symm
  rw [e2, legsT_app, e, legsT_app, hu, Option.bind_some] at h
  obtain ⟨vs, hv, -⟩ := Option.bind_eq_some_iff.1 h
  obtain ⟨t, ht, h3⟩ := Option.bind_eq_some_iff.1 (show (legT (rd_T46 l (i : Int))).bind (fun t => legsT [] (us ++ [t])) = some vs from hv)
  refine ⟨t, ht, ?_⟩
  rw [e, legsT_app, hu, Option.bind_some]
  show (legT (rd_T46 l (i : Int))).bind (fun t => legsT [] (us ++ [t])) = _
  rw [ht]
  rfl
/-- A row of texts that the call has just written down. -/
theorem lit_row (W : World) (ts : List ByteArray) (hn : 0 < ts.length) (hm : ts.length ≤ 100) : Kd.C Kd.string (W.alloc (.cells (encs Value.string ts).toArray 9)) (some ⟨W.heap.size, 0, none⟩) ts.length ts := by
  have ho := World.ownsRow_lit (base := W.heap.size) (e := 9) (size := 1) W (encs Value.string ts).toArray ts.length (Nat.le_refl _) (by unfold maxLen; omega) (by simp [encs])
  have hR := Kd.R_of_own (enc := Value.string) (h1 := fun _ => rfl) (xs := ts) (show _ from by simpa [encs] using ho) (ok := fun _ => True) (fun _ _ => trivial)
  have := (Kd.R_reads' hR).2.2
  exact this
theorem cell?_alloc_some_ {W : World} {a : Addr} {v : Value} (o : Obj) (h : W.cell? a = some v) : (W.alloc o).cell? a = some v := ((below_alloc (Below.refl W.heap.size W) o).cell (World.block_lt_of_cell? _ _ h)).trans h
set_option maxHeartbeats 4000000 in
set_option maxRecDepth 100000 in
theorem entry_Encode.calls (a0 a1 a2 a3 a4 a5 : Int) (a6 a7 : ByteArray) (A0 : Option Addr) (c0 : Nat) (l0 : List S46) (a9 : Int) (r : ByteArray) (w : World) (hr0 : Kd.C k46 w A0 l0.length l0) (hc0 : l0.length ≤ c0) (HTab_ : TabW w) (h : entry_Encode.f a0 a1 a2 a3 a4 a5 a6 a7 l0 a9 = some r) :
    Calls Tryd.prog 25 #[.agg #[.int .i64 a0, .int .i64 a1, .int .i64 a2, .int .i64 a3, .int .i64 a4, .int .i64 a5, .string a6, .string a7, .slice A0 l0.length c0, .int .u64 a9]] w fun e w' => e = .returned (.string r) ∧ Below w.heap.size w w' := by
  have hu := Tryd.underlying46
  have hue := Tryd.underlying25
  unfold entry_Encode.f at h
  split at h
  case isFalse => cases h
  case isTrue hlim =>
  obtain ⟨ts, hts, g0⟩ := Option.bind_eq_some_iff.1 h
  obtain ⟨t0, h0, g1⟩ := Option.bind_eq_some_iff.1 g0
  obtain ⟨t1, h1, g2⟩ := Option.bind_eq_some_iff.1 g1
  obtain ⟨t2, h2, g3⟩ := Option.bind_eq_some_iff.1 g2
  obtain ⟨t3, h3, g4⟩ := Option.bind_eq_some_iff.1 g3
  obtain ⟨t4, h4, g5⟩ := Option.bind_eq_some_iff.1 g4
  obtain ⟨t5, h5, g6⟩ := Option.bind_eq_some_iff.1 g5
  obtain ⟨p, hp, g7⟩ := Option.bind_eq_some_iff.1 g6
  have HT := Lib.hid HTab_
  have HR := Lib.hid hr0
  have HH := Lib.hid (And.intro h0 (And.intro h1 (And.intro h2 (And.intro h3 (And.intro h4 (And.intro h5 (And.intro hp (And.intro g7 hts))))))))
  clear h0 h1 h2 h3 h4 h5 h HTab_ g0 g1 g2 g3 g4 g5 g6 g7 hts hp hr0
  obtain ⟨cs, hcs⟩ : ∃ cs : Array Value, cs = #[.int .i64 a0, .int .i64 a1, .int .i64 a2, .int .i64 a3, .int .i64 a4, .int .i64 a5, .string a6, .string a7, .slice A0 l0.length c0, .int .u64 a9] := ⟨_, rfl⟩
  go_enter Tryd.func25, Tryd.ntmps25
  go_wp2
  obtain ⟨W1, hW1⟩ : ∃ W1, w.alloc (.cells cs 25) = W1 := ⟨_, rfl⟩
  rw [← hcs, hW1]
  have hB1 : Below w.heap.size w W1 := by rw [← hW1]; exact below_alloc (Below.refl _ _) _
  have hblk1 : W1.heap[w.heap.size]? = some (.cells cs 25 (0, 0)) := by rw [← hW1]; exact heap_alloc_new w _
  have H1 := Lib.hid (And.intro hB1 (And.intro hblk1 (And.intro hW1 hcs)))
  clear hB1 hblk1 hW1 hcs
  go_loopw [3, 12] (fun v3 v12 wr => ∃ i : Nat, v12 = .int .i64 i ∧ Hid (i ≤ l0.length ∧ ∃ us, legsT (l0.take i) [] = some us ∧ Kd.R Kd.string 9 wr W1.heap.size (fun _ => True) v3 us ∧ Below W1.heap.size W1 wr)) (fun _ v12 _ => l0.length - (intOf v12).toNat)
  case atStart => exact ⟨0, rfl, Lib.hid ⟨by omega, [], rfl, Kd.R_nil _ _ _ _ _, Below.refl _ _⟩⟩
  case round =>
    obtain ⟨i, rfl, hh⟩ := hrel
    obtain ⟨hil, us, hus, hR, hB⟩ := hh.out
    clear hh
    have hbw : Below w.heap.size w wr := below_then H1.out.1 H1.out.1.size hB
    by_cases hlt : i < l0.length
    · obtain ⟨ad, ead, hx0, hx1, hx2⟩ := at_T46 (Kd.C_below HR.out hbw) (i : Int) (by omega) (by omega)
      obtain ⟨t, ht, hts⟩ := legsT_at l0 i hlt HH.out.2.2.2.2.2.2.2.2 hus
      have hul := legsT_len _ _ _ hus
      obtain ⟨x, hx⟩ : ∃ x, rd_T46 l0 (i : Int) = x := ⟨_, rfl⟩
      rw [hx] at hx0 hx1 hx2 ht
      rw [Int.toNat_natCast] at hx0 hx1 hx2
      cases ead
      obtain ⟨u1, hu1, g1⟩ := Option.bind_eq_some_iff.1 (show (strconv_Itoa.f x.f0).bind (fun t1 => (strconv_Itoa.f x.f1).bind fun t2 => wire_Pack.f [t1, t2, x.f2]) = some t from ht)
      obtain ⟨u2, hu2, g2⟩ := Option.bind_eq_some_iff.1 g1
      have hi0 : (0 : Int) ≤ (i : Int) := by omega
      have hi1 : (i : Int) < (l0.length : Int) := by omega
      have hw1 : IntKind.i64.wrap ((i : Int) + 1) = (i : Int) + 1 := by rw [IntKind.wrap_i64]; omega
      have HF := Lib.hid (And.intro hR (And.intro hB (And.intro hbw (And.intro hu1 (And.intro hu2 (And.intro g2 (And.intro hts (And.intro hul hil))))))))
      clear hR hB hbw hu1 hu2 g1 g2 hts hul hx ht hus hil
      go_wp2
      have dk : (wr.alloc (.cells #[.int .i64 x.f0, .int .i64 x.f1, .string x.f2] 46)).heap[wr.heap.size]? = some (.cells #[.int .i64 x.f0, .int .i64 x.f1, .string x.f2] 46 (0, 0)) := heap_alloc_new wr _
      have d0 : (wr.alloc (.cells #[.int .i64 x.f0, .int .i64 x.f1, .string x.f2] 46)).cell? ⟨wr.heap.size, 0, none⟩ = some (.int .i64 x.f0) := (blk_cell dk 0).trans rfl
      have d1 : (wr.alloc (.cells #[.int .i64 x.f0, .int .i64 x.f1, .string x.f2] 46)).cell? ⟨wr.heap.size, 1, none⟩ = some (.int .i64 x.f1) := (blk_cell dk 1).trans rfl
      have d2 : (wr.alloc (.cells #[.int .i64 x.f0, .int .i64 x.f1, .string x.f2] 46)).cell? ⟨wr.heap.size, 2, none⟩ = some (.string x.f2) := (blk_cell dk 2).trans rfl
      have hB2 : Below wr.heap.size wr (wr.alloc (.cells #[.int .i64 x.f0, .int .i64 x.f1, .string x.f2] 46)) := below_alloc (Below.refl _ _) _
      have HK2 := Lib.hid (And.intro dk hB2)
      clear dk hB2
      go_region_held3 (fun w' => w'.cell? ⟨wr.heap.size, 0, none⟩ = some (.int .i64 x.f0) ∧ w'.cell? ⟨wr.heap.size, 1, none⟩ = some (.int .i64 x.f1) ∧ w'.cell? ⟨wr.heap.size, 2, none⟩ = some (.string x.f2))
        (first
          | go_keep
          | exact ⟨(blk_cell HC.out.1 0).trans rfl, (blk_cell HC.out.1 1).trans rfl, (blk_cell HC.out.1 2).trans rfl⟩
          | exact ⟨(blk_cell (blk_alloc HC.out.1 _) 0).trans rfl, (blk_cell (blk_alloc HC.out.1 _) 1).trans rfl, (blk_cell (blk_alloc HC.out.1 _) 2).trans rfl⟩
          | exact ⟨(blk_cell HA2.out.1 0).trans rfl, (blk_cell HA2.out.1 1).trans rfl, (blk_cell HA2.out.1 2).trans rfl⟩
          | exact ⟨(blk_cell (blk_alloc HA2.out.1 _) 0).trans rfl, (blk_cell (blk_alloc HA2.out.1 _) 1).trans rfl, (blk_cell (blk_alloc HA2.out.1 _) 2).trans rfl⟩
          | exact ⟨(blk_cell HA1.out.1 0).trans rfl, (blk_cell HA1.out.1 1).trans rfl, (blk_cell HA1.out.1 2).trans rfl⟩
          | exact ⟨(blk_cell HD.out.2 0).trans rfl, (blk_cell HD.out.2 1).trans rfl, (blk_cell HD.out.2 2).trans rfl⟩)
        (first
          | (go_at_call 53; (with_reducible show Calls _ _ #[.int .i64 x.f0] _ _); refine (int_calls x.f0 u1 _ (HT.out.below (below_then HF.out.2.2.1 HF.out.2.2.1.size HK2.out.2).drew) HF.out.2.2.2.1).mono ?_; rintro e' wA ⟨rfl, hbA⟩; have HA1 := Lib.hid (And.intro ((hbA.block _ (blk_lt (blk_drew HK2.out.1))).trans (blk_drew HK2.out.1)) (below_then HK2.out.2.drew HK2.out.2.size hbA)))
          | (go_at_call 53; (with_reducible show Calls _ _ #[.int .i64 x.f1] _ _); refine (int_calls x.f1 u2 _ (HT.out.below (below_then HF.out.2.2.1 HF.out.2.2.1.size HA1.out.2)) HF.out.2.2.2.2.1).mono ?_; rintro e' wB ⟨rfl, hbB⟩; have HA2 := Lib.hid (And.intro ((hbB.block _ (blk_lt HA1.out.1)).trans HA1.out.1) (below_then HA1.out.2 HA1.out.2.size hbB)))
          | (go_at_call 52; refine (wire_Pack.calls (some ⟨wB.heap.size, 0, none⟩) 3 [u1, u2, x.f2] t _ (lit_row wB [u1, u2, x.f2] (by simp) (by simp)) (Nat.le_refl 3) (HT.out.below (below_alloc (below_then HF.out.2.2.1 HF.out.2.2.1.size HA2.out.2) _)) HF.out.2.2.2.2.2.1).mono ?_; rintro e' wC ⟨rfl, hbC⟩; have HC := Lib.hid (And.intro ((hbC.block _ (blk_lt (blk_alloc HA2.out.1 _))).trans (blk_alloc HA2.out.1 _)) (below_then (below_alloc HA2.out.2 _) (by have := HA2.out.2.size; rw [World.size_alloc]; omega) hbC)))
          | (refine Kd.R_append_step Kd.string (w0 := W1) W1.heap.size (by rfl) (.tmp 16) (.tmp 27) 62 9 (.string ⟨#[]⟩) 16 rfl Tryd.underlying62 info9 rfl (by decide) (by omega) u3 us t [.string t] (fun _ => True) (fun _ => False) rfl rfl ?aP (fun _ hk => hk.elim) ?aF ?aO ?aB ?aS ?aL ?_; (case aP => exact rfl); (case aB => exact below_then HF.out.2.1 HF.out.2.1.size HC.out.2); (case aF => exact (fun _ _ => trivial)); (case aO => exact Kd.R_below HF.out.1 HC.out.2); (case aS => exact Nat.le_trans HF.out.2.1.size HC.out.2.size); (case aL => exact (by have := HF.out.2.2.2.2.2.2.2.1; rw [List.length_take] at this; simp at this; omega)); intro v2 w2 ho hb hg hat; have HD := Lib.hid (And.intro hb (blk_grown HC.out.1 hg (fun e => Nat.lt_irrefl _ (Kd.R_lt HF.out.1 _ e.symm)))); have HO := Lib.hid ho; clear ho hb hg hat))
      go_wp2
      refine ⟨⟨i + 1, ?_, Lib.hid ⟨by omega, us ++ [t], HF.out.2.2.2.2.2.2.1, HO.out, HD.out.1⟩⟩, ?_⟩
      · rw [show ((i : Int) + 1) = ((i + 1 : Nat) : Int) by omega]
      · show l0.length - ((i : Int) + 1).toNat < l0.length - (i : Int).toNat
        omega
    · obtain rfl : i = l0.length := by omega
      rw [List.take_length, HH.out.2.2.2.2.2.2.2.2] at hus
      obtain rfl := Option.some.inj hus
      have hge : ¬ ((l0.length : Int) < (l0.length : Int)) := by omega
      have hbk : wr.heap[w.heap.size]? = some (.cells cs 25 (0, 0)) := (hB.block _ (blk_lt H1.out.2.1)).trans H1.out.2.1
      have e0 : wr.cell? ⟨w.heap.size, 0, none⟩ = some (.int .i64 a0) := by rw [blk_cell hbk, H1.out.2.2.2]; rfl
      have e1 : wr.cell? ⟨w.heap.size, 1, none⟩ = some (.int .i64 a1) := by rw [blk_cell hbk, H1.out.2.2.2]; rfl
      have e2 : wr.cell? ⟨w.heap.size, 2, none⟩ = some (.int .i64 a2) := by rw [blk_cell hbk, H1.out.2.2.2]; rfl
      have e3 : wr.cell? ⟨w.heap.size, 3, none⟩ = some (.int .i64 a3) := by rw [blk_cell hbk, H1.out.2.2.2]; rfl
      have e4 : wr.cell? ⟨w.heap.size, 4, none⟩ = some (.int .i64 a4) := by rw [blk_cell hbk, H1.out.2.2.2]; rfl
      have e5 : wr.cell? ⟨w.heap.size, 5, none⟩ = some (.int .i64 a5) := by rw [blk_cell hbk, H1.out.2.2.2]; rfl
      have HF := Lib.hid (And.intro hR (And.intro hB (And.intro hbw hbk)))
      clear hR hB hbw hbk hus hlt
      go_wp2
      clear e0 e1 e2 e3 e4 e5
      obtain ⟨W2, rfl⟩ : ∃ W2, W2 = wr := ⟨_, rfl⟩
      go_loopw [4, 43] (fun v4 v43 w2 => ∃ i : Nat, v43 = .int .i64 i ∧ Hid (i ≤ 6 ∧ Kd.R Kd.string 9 w2 W2.heap.size (fun _ => True) v4 ([t0, t1, t2, t3, t4, t5].take i) ∧ Below W2.heap.size W2 w2)) (fun _ v43 _ => 6 - (intOf v43).toNat)
      case atStart => exact ⟨0, rfl, Lib.hid ⟨by omega, Kd.R_nil _ _ _ _ _, Below.refl _ _⟩⟩
      case round =>
        obtain ⟨i, rfl, hh⟩ := hrel
        obtain ⟨hi, hR, hB⟩ := hh.out
        clear hh
        by_cases hlt : i < 6
        · have key : ∃ n t, strconv_Itoa.f n = some t ∧ (∀ W, (Instr.index 65 (.agg #[.int .i64 a0, .int .i64 a1, .int .i64 a2, .int .i64 a3, .int .i64 a4, .int .i64 a5]) (.int .i64 (i : Int))).run Tryd.prog W = .ok (.int .i64 n) W) ∧ ([t0, t1, t2, t3, t4, t5].take (i + 1)) = ([t0, t1, t2, t3, t4, t5].take i) ++ [t] := by
            obtain ⟨h0, h1, h2, h3, h4, h5, -⟩ := HH.out
            rcases i with _ | _ | _ | _ | _ | _ | i
            · exact ⟨_, _, h0, fun W => by rfl, rfl⟩
            · exact ⟨_, _, h1, fun W => by rfl, rfl⟩
            · exact ⟨_, _, h2, fun W => by rfl, rfl⟩
            · exact ⟨_, _, h3, fun W => by rfl, rfl⟩
            · exact ⟨_, _, h4, fun W => by rfl, rfl⟩
            · exact ⟨_, _, h5, fun W => by rfl, rfl⟩
            · omega
          obtain ⟨n, t, hn, hidx, ht⟩ := key
          have hlt2 : (i : Int) < 6 := by omega
          have hll : ([t0, t1, t2, t3, t4, t5].take i).length < 10 := by simp; omega
          generalize hxs : ([t0, t1, t2, t3, t4, t5].take i) = xs at hR ht hll
          have HG := Lib.hid (And.intro hR (And.intro hB (And.intro hn (And.intro hll (And.intro ht hi)))))
          clear hR hB hn ht hll hxs hi
          go_wp2_with (first
            | (go_at_call 53; refine (int_calls n t _ (HT.out.below (below_then HF.out.2.2.1 HF.out.2.2.1.size HG.out.2.1)) HG.out.2.2.1).mono ?_; rintro e w' ⟨rfl, hb1⟩; have HB1 := Lib.hid hb1; clear hb1)
            | (at_builtin; go_loud (refine Kd.R_append Kd.string (w0 := W2) W2.heap.size rfl (.tmp 46) (.tmp 49) 62 9 (.string ⟨#[]⟩) 16 rfl Tryd.underlying62 info9 rfl (by decide) (by omega) u4 xs t [.string t] (fun _ => True) (fun _ => False) rfl rfl ?aP (fun _ hk => hk.elim) ?aF ?aO ?aB ?aS ?aL ?_; (case aP => exact rfl); (case aB => exact below_then HG.out.2.1 HG.out.2.1.size HB1.out); (case aF => exact (fun _ _ => trivial)); (case aO => exact Kd.R_below HG.out.1 HB1.out); (case aS => exact Nat.le_trans HG.out.2.1.size HB1.out.size); (case aL => exact (by have := HG.out.2.2.2.1; omega)); intro v2 w2 ho hb hg hat; have HO := Lib.hid ho; have HB := Lib.hid hb; clear ho hb hg hat)))
          refine ⟨⟨i + 1, ?_, Lib.hid ⟨by omega, ?_, HB.out⟩⟩, ?_⟩
          · rw [show ((i : Int) + 1) = ((i + 1 : Nat) : Int) by omega]
          · rw [HG.out.2.2.2.2.1]; exact HO.out
          · simp only [intOf]
            omega
        · obtain rfl : i = 6 := by omega
          have hz : ¬ ((6 : Nat) : Int) < 6 := by omega
          have hbk2 : wr.heap[w.heap.size]? = some (.cells cs 25 (0, 0)) := (hB.block _ (blk_lt HF.out.2.2.2)).trans HF.out.2.2.2
          have e6 : wr.cell? ⟨w.heap.size, 6, none⟩ = some (.string a6) := by rw [blk_cell hbk2, H1.out.2.2.2]; rfl
          have e7 : wr.cell? ⟨w.heap.size, 7, none⟩ = some (.string a7) := by rw [blk_cell hbk2, H1.out.2.2.2]; rfl
          have HG := Lib.hid (And.intro hR (And.intro hB hbk2))
          clear hR hB hbk2 hlt
          have hFe := Kd.R_below HF.out.1 HG.out.2.1
          obtain ⟨Al, cl, hel⟩ := Kd.R_slice HF.out.1
          subst hel
          obtain ⟨Af, cf, hef⟩ := Kd.R_slice HG.out.1
          subst hef
          have HL := Lib.hid hFe
          have z6 : cs[6]? = some (.string a6) := by rw [H1.out.2.2.2]; rfl
          have z7 : cs[7]? = some (.string a7) := by rw [H1.out.2.2.2]; rfl
          have HZ := Lib.hid (And.intro z6 z7)
          clear hFe z6 z7
          go_wp2
          go_region_held3 (fun w' => w'.cell? ⟨w.heap.size, 6, none⟩ = some (.string a6) ∧ w'.cell? ⟨w.heap.size, 7, none⟩ = some (.string a7))
            (first
              | exact ⟨e6D, e7D⟩
              | exact ⟨e6C, e7C⟩
              | exact ⟨e6B, e7B⟩
              | exact ⟨e6A, e7A⟩
              | go_keep)
            (first
              | (go_at_call 52; (with_reducible show Calls _ _ #[.slice Al ts.length cl] _ _); refine (wire_Pack.calls Al cl ts p _ (Kd.C_below (Kd.R_reads' HL.out).2.2 (Below.refl _ _).drew) (Kd.R_reads' HL.out).2.1 (HT.out.below (below_then HF.out.2.2.1 HF.out.2.2.1.size HG.out.2.1).drew) HH.out.2.2.2.2.2.2.1).mono ?_; rintro e' wA ⟨rfl, hbA⟩; have e6A := (hbA.cell (World.block_lt_of_cell? _ _ e6)).trans e6; have e7A := (hbA.cell (World.block_lt_of_cell? _ _ e7)).trans e7; have e6B := cell?_alloc_some_ (.cells #[.string a6, .string a7, .string p] 9) e6A; have e7B := cell?_alloc_some_ (.cells #[.string a6, .string a7, .string p] 9) e7A; have HA := Lib.hid (below_then (Below.refl wr.heap.size wr).drew (Nat.le_refl _) hbA); clear hbA)
              | (go_at_call 52; refine (wire_Pack.calls Ax cx [t0, t1, t2, t3, t4, t5, a6, a7, p] r _ (Kd.R_reads' HO.out).2.2 (Kd.R_reads' HO.out).2.1 (HT.out.below (below_then HF.out.2.2.1 HF.out.2.2.1.size HB2.out)) HH.out.2.2.2.2.2.2.2.1).mono ?_; rintro e' wC ⟨rfl, hbC⟩; have e6D := (hbC.cell (World.block_lt_of_cell? _ _ e6C)).trans e6C; have e7D := (hbC.cell (World.block_lt_of_cell? _ _ e7C)).trans e7C; have HC := Lib.hid hbC; clear hbC)
              | (refine Kd.R_append_rows_step Kd.string (Rr := Kd.string.K (wA.alloc (.cells #[.string a6, .string a7, .string p] 9))) (w0 := W2) W2.heap.size (by rfl) (.tmp 52) (.tmp 59) 62 9 (.string ⟨#[]⟩) 16 rfl Tryd.underlying62 info9 rfl (by decide) (by omega) (.slice Af 6 cf) [t0, t1, t2, t3, t4, t5] [a6, a7, p] (some ⟨wA.heap.size, 0, none⟩) 3 3 (fun _ => True) (fun _ => False) rfl rfl ?aO ?aR ?aK (fun _ h => h.elim) ?aF ?aB ?aS ?aL ?_; (case aR => exact lit_row wA [a6, a7, p] (by simp) (by simp)); (case aK => exact (fun _ _ h => h)); (case aB => exact below_alloc (below_then HG.out.2.1 HG.out.2.1.size HA.out) _); (case aF => exact (fun _ _ => trivial)); (case aO => exact Kd.R_below HG.out.1 (below_alloc HA.out _)); (case aS => exact (by have h1 := HG.out.2.1.size; have h2 := HA.out.size; rw [World.size_alloc]; omega)); (case aL => exact (by simp)); intro v1 w1 ho hb hg hat; obtain ⟨Ax, cx, rfl⟩ := Kd.R_slice ho; have HO := Lib.hid ho; have HB2 := Lib.hid hb; have hkk := (hb.block _ (blk_lt HF.out.2.2.2)).trans HF.out.2.2.2; have e6C : w1.cell? ⟨w.heap.size, 6, none⟩ = some (.string a6) := (blk_cell hkk 6).trans HZ.out.1; have e7C : w1.cell? ⟨w.heap.size, 7, none⟩ = some (.string a7) := (blk_cell hkk 7).trans HZ.out.2; clear ho hb hg hat hkk))
          go_wp2
          go_ret
          have hX := below_then HF.out.2.2.1 HF.out.2.2.1.size HB2.out
          exact ⟨rfl, below_then hX hX.size HC.out⟩
end Go.Proofs.YtkfgnjdchnpjeaaDoor

