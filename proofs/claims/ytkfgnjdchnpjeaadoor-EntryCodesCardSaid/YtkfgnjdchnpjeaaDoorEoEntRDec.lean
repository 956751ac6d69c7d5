/- EntRDec: what the law EntryCodes asks of it. -/
import Derived.Test.YtkfgnjdchnpjeaaDoorEoEntRev
import Derived.Test.YtkfgnjdchnpjeaaDoorEoQDx14
namespace Go.Proofs.YtkfgnjdchnpjeaaDoor
open Go.RowKit Go.Proofs.YtkfgnjdchnpjeaaDoor.QD Go.Proofs.YtkfgnjdchnpjeaaDoorW.PrintWords
set_option linter.unusedVariables false
set_option linter.unusedSimpArgs false

/-- The numbers of texts one after the other, or the first error. -/
def rdecGo (k : Nat) : List ByteArray → List Int → Option (Sum Int (List Int))
  | [], ns => some (.inr ns)
  | s :: r, ns => (corebankref07_TakeInt.f k s).bind fun t => if t.2 = 0 then rdecGo k r (ns ++ [t.1]) else some (.inl t.2)
/-- The legs of texts, or the first error. -/
def rlegsGo (k : Nat) : List ByteArray → List S46 → Option (List S46 × Int)
  | [], a => some (a, 0)
  | s :: r, a => (corebankref19_taken.f k s).bind fun t => if t.2.2.2 = 0 then rlegsGo k r (a ++ [⟨t.1, t.2.1, t.2.2.1⟩]) else some ([], t.2.2.2)
def rlegsF (k : Nat) (v : ByteArray) : Option (List S46 × Int) := (corebankref07_Unpack.f k v).bind fun u => if u.2 = 0 then (if u.1.length ≤ 100000000 then rlegsGo k u.1 [] else none) else some ([], u.2)
def rdecFin (k : Nat) (s t v : ByteArray) : Sum Int (List Int) → Option EntR
  | .inl e => some (decZ e)
  | .inr [a, b, c, d, e, f] => (rlegsF k v).bind fun g => if g.2 = 0 then some (a, b, c, d, e, f, s, t, g.1, 0, 0) else some (decZ g.2)
  | .inr _ => none
def rdecAll (k : Nat) : List ByteArray → Option EntR
  | [a, b, c, d, e, f, s, t, v] => (rdecGo k [a, b, c, d, e, f] []).bind (rdecFin k s t v)
  | _ => some (decZ 25)
def corebankref19_Decode.f (k : Nat) (a0 : ByteArray) : Option EntR := (corebankref07_Unpack.f k a0).bind fun u => if u.2 = 0 then rdecAll k u.1 else some (decZ u.2)
theorem infoInt : (Tryd.prog.info? 3).map (fun i => (i.zero, i.size, i.bytes)) = some (some (.int .i64 0), 1, 8) := by kernel_rfl
theorem rdecAll_ne {k : Nat} {l : List ByteArray} (h : l.length ≠ 9) : rdecAll k l = some (decZ 25) := by
  unfold rdecAll
  split
  · simp at h
  · rfl
set_option maxRecDepth 100000
set_option maxHeartbeats 4000000 in
theorem corebankref19_Decode.calls (k : Nat) (a0 : ByteArray) (r1 r2 r3 r4 r5 r6 : Int) (r7 r8 : ByteArray) (r9 : List S46) (r10 r11 : Int) (w : World) (h : corebankref19_Decode.f k a0 = some (r1, r2, r3, r4, r5, r6, r7, r8, r9, r10, r11)) :
    Calls Tryd.prog 24 #[.string a0] w fun e w' => ∃ v8_ : Value, e = .returned (.tuple #[.agg #[.int .i64 r1, .int .i64 r2, .int .i64 r3, .int .i64 r4, .int .i64 r5, .int .i64 r6, .string r7, .string r8, v8_, .int .u64 r10], .int .i64 r11]) ∧ Kd.R k46 46 w' w.heap.size (fun _ => True) v8_ r9 ∧ Below w.heap.size w w' := by
  have hu25 := Tryd.underlying25
  have hu46 := Tryd.underlying46
  unfold corebankref19_Decode.f at h
  obtain ⟨⟨l, er⟩, hu, hd⟩ := Option.bind_eq_some_iff.1 h
  simp only at hd
  clear h
  have HU := Lib.hid hu
  clear hu
  by_cases he : er = 0
  case neg =>
    rw [if_neg he] at hd
    have hd2 := Option.some.inj hd
    unfold decZ at hd2
    simp only [Prod.mk.injEq] at hd2
    obtain ⟨rfl, rfl, rfl, rfl, rfl, rfl, rfl, rfl, rfl, rfl, rfl⟩ := hd2
    have heb : (er != 0) = true := bne_iff_ne.2 he
    clear hd
    go_enter Tryd.func24, Tryd.ntmps24
    go_wp2_with (go_at_call 49; refine (corebankref07_Unpack.calls k a0 l er _ HU.out).mono ?_; rintro e0 W1 ⟨v0, rfl, hR, hb⟩; have HR := Lib.hid hR; have HB := Lib.hid hb; have hblk : W1.heap[w.heap.size]? = some (.cells #[.int .i64 0, .int .i64 0, .int .i64 0, .int .i64 0, .int .i64 0, .int .i64 0, .string (⟨#[]⟩ : ByteArray), .string (⟨#[]⟩ : ByteArray), .slice none 0 0, .int .u64 0] 25 (0, 0)) := (hb.block _ (by rw [World.size_alloc]; omega)).trans (heap_alloc_new w _); have hcz0 : W1.cell? ⟨w.heap.size, 0, none⟩ = some (.int .i64 0) := (blk_cell hblk 0).trans rfl; have hfz0 := blk_frozen hblk 0; have hcz1 : W1.cell? ⟨w.heap.size, 1, none⟩ = some (.int .i64 0) := (blk_cell hblk 1).trans rfl; have hfz1 := blk_frozen hblk 1; have hcz2 : W1.cell? ⟨w.heap.size, 2, none⟩ = some (.int .i64 0) := (blk_cell hblk 2).trans rfl; have hfz2 := blk_frozen hblk 2; have hcz3 : W1.cell? ⟨w.heap.size, 3, none⟩ = some (.int .i64 0) := (blk_cell hblk 3).trans rfl; have hfz3 := blk_frozen hblk 3; have hcz4 : W1.cell? ⟨w.heap.size, 4, none⟩ = some (.int .i64 0) := (blk_cell hblk 4).trans rfl; have hfz4 := blk_frozen hblk 4; have hcz5 : W1.cell? ⟨w.heap.size, 5, none⟩ = some (.int .i64 0) := (blk_cell hblk 5).trans rfl; have hfz5 := blk_frozen hblk 5; have hcz6 : W1.cell? ⟨w.heap.size, 6, none⟩ = some (.string (⟨#[]⟩ : ByteArray)) := (blk_cell hblk 6).trans rfl; have hfz6 := blk_frozen hblk 6; have hcz7 : W1.cell? ⟨w.heap.size, 7, none⟩ = some (.string (⟨#[]⟩ : ByteArray)) := (blk_cell hblk 7).trans rfl; have hfz7 := blk_frozen hblk 7; have hcz8 : W1.cell? ⟨w.heap.size, 8, none⟩ = some (.slice none 0 0) := (blk_cell hblk 8).trans rfl; have hfz8 := blk_frozen hblk 8; have hcz9 : W1.cell? ⟨w.heap.size, 9, none⟩ = some (.int .u64 0) := (blk_cell hblk 9).trans rfl; have hfz9 := blk_frozen hblk 9; have HK := Lib.hid hblk; clear hR hb hblk)
    refine bodyPost_ret (results_ct rfl _ _ w.heap.size 25 #[.int .i64 0, .int .i64 0, .int .i64 0, .int .i64 0, .int .i64 0, .int .i64 0, .string (⟨#[]⟩ : ByteArray), .string (⟨#[]⟩ : ByteArray), .slice none 0 0, .int .u64 0] (0, 0) _ rfl (blk10 HK.out) Tryd.underlying25 rfl (by kernel_rfl)) rfl ?_
    exact ⟨_, rfl, Kd.R_nil _ _ _ _ _, below10 (below_then (below_alloc (Below.refl _ _) _) (by rw [World.size_alloc]; omega) HB.out) (Nat.le_refl _)⟩
  case pos =>
    subst he
    rw [if_pos rfl] at hd
    by_cases h9 : l.length = 9
    case neg =>
      rw [rdecAll_ne h9] at hd
      have hd2 := Option.some.inj hd
      unfold decZ at hd2
      simp only [Prod.mk.injEq] at hd2
      obtain ⟨rfl, rfl, rfl, rfl, rfl, rfl, rfl, rfl, rfl, rfl, rfl⟩ := hd2
      have h9b : ((l.length : Int) != 9) = true := bne_iff_ne.2 (by omega)
      clear hd
      go_enter Tryd.func24, Tryd.ntmps24
      go_wp2_with (go_at_call 49; refine (corebankref07_Unpack.calls k a0 l 0 _ HU.out).mono ?_; rintro e0 W1 ⟨v0, rfl, hR, hb⟩; obtain ⟨Ax, cx, rfl⟩ := Kd.R_slice hR; have HR := Lib.hid hR; have HB := Lib.hid hb; have hblk : W1.heap[w.heap.size]? = some (.cells #[.int .i64 0, .int .i64 0, .int .i64 0, .int .i64 0, .int .i64 0, .int .i64 0, .string (⟨#[]⟩ : ByteArray), .string (⟨#[]⟩ : ByteArray), .slice none 0 0, .int .u64 0] 25 (0, 0)) := (hb.block _ (by rw [World.size_alloc]; omega)).trans (heap_alloc_new w _); have hcz0 : W1.cell? ⟨w.heap.size, 0, none⟩ = some (.int .i64 0) := (blk_cell hblk 0).trans rfl; have hfz0 := blk_frozen hblk 0; have hcz1 : W1.cell? ⟨w.heap.size, 1, none⟩ = some (.int .i64 0) := (blk_cell hblk 1).trans rfl; have hfz1 := blk_frozen hblk 1; have hcz2 : W1.cell? ⟨w.heap.size, 2, none⟩ = some (.int .i64 0) := (blk_cell hblk 2).trans rfl; have hfz2 := blk_frozen hblk 2; have hcz3 : W1.cell? ⟨w.heap.size, 3, none⟩ = some (.int .i64 0) := (blk_cell hblk 3).trans rfl; have hfz3 := blk_frozen hblk 3; have hcz4 : W1.cell? ⟨w.heap.size, 4, none⟩ = some (.int .i64 0) := (blk_cell hblk 4).trans rfl; have hfz4 := blk_frozen hblk 4; have hcz5 : W1.cell? ⟨w.heap.size, 5, none⟩ = some (.int .i64 0) := (blk_cell hblk 5).trans rfl; have hfz5 := blk_frozen hblk 5; have hcz6 : W1.cell? ⟨w.heap.size, 6, none⟩ = some (.string (⟨#[]⟩ : ByteArray)) := (blk_cell hblk 6).trans rfl; have hfz6 := blk_frozen hblk 6; have hcz7 : W1.cell? ⟨w.heap.size, 7, none⟩ = some (.string (⟨#[]⟩ : ByteArray)) := (blk_cell hblk 7).trans rfl; have hfz7 := blk_frozen hblk 7; have hcz8 : W1.cell? ⟨w.heap.size, 8, none⟩ = some (.slice none 0 0) := (blk_cell hblk 8).trans rfl; have hfz8 := blk_frozen hblk 8; have hcz9 : W1.cell? ⟨w.heap.size, 9, none⟩ = some (.int .u64 0) := (blk_cell hblk 9).trans rfl; have hfz9 := blk_frozen hblk 9; have HK := Lib.hid hblk; clear hR hb hblk)
      refine bodyPost_ret (results_ct rfl _ _ w.heap.size 25 #[.int .i64 0, .int .i64 0, .int .i64 0, .int .i64 0, .int .i64 0, .int .i64 0, .string (⟨#[]⟩ : ByteArray), .string (⟨#[]⟩ : ByteArray), .slice none 0 0, .int .u64 0] (0, 0) _ rfl (blk10 HK.out) Tryd.underlying25 rfl (by kernel_rfl)) rfl ?_
      exact ⟨_, rfl, Kd.R_nil _ _ _ _ _, below10 (below_then (below_alloc (Below.refl _ _) _) (by rw [World.size_alloc]; omega) HB.out) (Nat.le_refl _)⟩
    case pos =>
      obtain ⟨a, b, c, d, e, f, s, t, v, rfl⟩ := nine h9
      obtain ⟨x, hx, hf⟩ := Option.bind_eq_some_iff.1 (show (rdecGo k [a, b, c, d, e, f] []).bind (rdecFin k s t v) = some (r1, r2, r3, r4, r5, r6, r7, r8, r9, r10, r11) from hd)
      have HX := Lib.hid hx
      have HFN := Lib.hid hf
      clear hd hx hf h9
      go_enter Tryd.func24, Tryd.ntmps24
      go_wp2_with (go_at_call 49; refine (corebankref07_Unpack.calls k a0 [a, b, c, d, e, f, s, t, v] 0 _ HU.out).mono ?_; rintro e0 W1 ⟨v0, rfl, hR, hb⟩; obtain ⟨Ax, cx, rfl⟩ := Kd.R_slice hR; have HR := Lib.hid hR; have HB := Lib.hid hb; have HK := Lib.hid (show W1.heap[w.heap.size]? = some (.cells #[.int .i64 0, .int .i64 0, .int .i64 0, .int .i64 0, .int .i64 0, .int .i64 0, .string (⟨#[]⟩ : ByteArray), .string (⟨#[]⟩ : ByteArray), .slice none 0 0, .int .u64 0] 25 (0, 0)) from (hb.block _ (by rw [World.size_alloc]; omega)).trans (heap_alloc_new w _)); clear hR hb)
      go_loopw [6, 7] (fun v6 v7 wr => ∃ (i : Nat) (A : Option Addr) (cp : Nat) (ns : List Int), v6 = .slice A i cp ∧ v7 = .int .i64 i ∧ Hid (i ≤ 6 ∧ ns.length = i ∧ rdecGo k ([a, b, c, d, e, f].drop i) ns = some x ∧ Kd.R (Kd.int .i64) 3 wr W1.heap.size (fun _ => True) (.slice A i cp) ns ∧ Below W1.heap.size W1 wr)) (fun _ v7 _ => 6 - (intOf v7).toNat)
      case atStart =>
        exact ⟨0, none, 0, [], rfl, rfl, Lib.hid ⟨by omega, rfl, HX.out, Kd.R_nil _ _ _ _ _, Below.refl _ _⟩⟩
      case round =>
        obtain ⟨i, A, cc, ns, rfl, rfl, hh⟩ := hrel
        obtain ⟨hi, hn, hg, hRn, hB⟩ := hh.out
        clear hh
        have hbw : Below w.heap.size w wr := below_then (below_then (below_alloc (Below.refl _ _) _) (by rw [World.size_alloc]; omega) HB.out) (by have := HB.out.size; rw [World.size_alloc] at this; omega) hB
        by_cases hlt : i < 6
        · have key : ∃ y, [a, b, c, d, e, f].drop i = y :: [a, b, c, d, e, f].drop (i + 1) ∧ rdOf ByteArray.empty [a, b, c, d, e, f, s, t, v] (i : Int) = y := by
            rcases i with _ | _ | _ | _ | _ | _ | i
            · exact ⟨_, rfl, rfl⟩
            · exact ⟨_, rfl, rfl⟩
            · exact ⟨_, rfl, rfl⟩
            · exact ⟨_, rfl, rfl⟩
            · exact ⟨_, rfl, rfl⟩
            · exact ⟨_, rfl, rfl⟩
            · omega
          obtain ⟨y, hy, hry⟩ := key
          rw [hy] at hg
          obtain ⟨⟨n, en⟩, htk, hg2⟩ := Option.bind_eq_some_iff.1 (show (corebankref07_TakeInt.f k y).bind (fun t => if t.2 = 0 then rdecGo k ([a, b, c, d, e, f].drop (i + 1)) (ns ++ [t.1]) else some (.inl t.2)) = some x from hg)
          simp only at hg2
          obtain ⟨ad, ead, hcell0⟩ := Kd.at_string (Kd.R_reads' HR.out).2.2 (i : Int) (by omega) (by simp; omega)
          rw [hry] at hcell0
          subst ead
          have hcell := (hB.cell (World.block_lt_of_cell? _ _ hcell0)).trans hcell0
          rw [Int.toNat_natCast] at hcell
          have hlt2 : (i : Int) < 6 := by omega
          have hlt9 : (i : Int) < 9 := by omega
          have hw1 : IntKind.i64.wrap ((i : Int) + 1) = (i : Int) + 1 := by rw [IntKind.wrap_i64]; omega
          have HQ := Lib.hid (And.intro hi (And.intro hn (And.intro htk (And.intro hRn (And.intro hB hbw)))))
          clear hi hn hg htk hRn hB hbw hy hry hcell0 hlt
          by_cases hen : en = 0
          · subst hen
            rw [if_pos rfl] at hg2
            have HG := Lib.hid hg2
            clear hg2
            go_wp2_with (first | (go_at_call 50; refine (corebankref07_TakeInt.calls k y n 0 _ HQ.out.2.2.1).mono ?_; rintro e0 w' ⟨rfl, hd_⟩; have hb_ := drawn_below hd_; have HB1 := Lib.hid hb_; clear hd_ hb_) | (at_builtin; go_loud (refine Kd.R_append (Kd.int .i64) (w0 := W1) (W := w') W1.heap.size rfl (.tmp 44) (.tmp 46) 70 3 (.int .i64 0) 8 rfl Tryd.underlying70 infoInt rfl (by decide) (by omega) (.slice A i cc) ns n [.int .i64 n] (fun _ => True) (fun _ => False) rfl rfl ?aP (fun _ hk => hk.elim) ?aF ?aO ?aB ?aS ?aL ?_; (case aP => exact rfl); (case aF => exact (fun _ _ => trivial)); (case aO => exact Kd.R_below HQ.out.2.2.2.1 HB1.out); (case aB => exact below_then HQ.out.2.2.2.2.1 HQ.out.2.2.2.2.1.size HB1.out); (case aS => exact Nat.le_trans HQ.out.2.2.2.2.1.size HB1.out.size); (case aL => exact (by have := HQ.out.2.1; omega)); intro v1 w1 ho hb hgr hat; obtain ⟨A1, c1, rfl⟩ := Kd.R_slice ho; have HO := Lib.hid (And.intro ho hb); clear ho hb hgr hat)))
            have hln : (ns ++ [n]).length = i + 1 := by rw [List.length_append, HQ.out.2.1]; rfl
            refine ⟨⟨i + 1, A1, c1, ns ++ [n], ?_, ?_, Lib.hid ⟨by have := HQ.out.1; omega, hln, HG.out, ?_, HO.out.2⟩⟩, ?_⟩
            · rw [HQ.out.2.1]
            · rw [show ((i : Int) + 1) = ((i + 1 : Nat) : Int) by omega]
            · have h6 := HO.out.1
              rw [hln] at h6
              exact h6
            · simp only [intOf]
              omega
          · rw [if_neg hen] at hg2
            obtain rfl := (Option.some.inj hg2)
            have hd2 := Option.some.inj (show some (decZ en) = some (r1, r2, r3, r4, r5, r6, r7, r8, r9, r10, r11) from HFN.out)
            unfold decZ at hd2
            simp only [Prod.mk.injEq] at hd2
            obtain ⟨rfl, rfl, rfl, rfl, rfl, rfl, rfl, rfl, rfl, rfl, rfl⟩ := hd2
            have henb : (en != 0) = true := bne_iff_ne.2 hen
            go_wp2_with (go_at_call 50; refine (corebankref07_TakeInt.calls k y n en _ HQ.out.2.2.1).mono ?_; rintro e0 w' ⟨rfl, hd_⟩; have hb_ := drawn_below hd_; have hblk : w'.heap[w.heap.size]? = some (.cells #[.int .i64 0, .int .i64 0, .int .i64 0, .int .i64 0, .int .i64 0, .int .i64 0, .string (⟨#[]⟩ : ByteArray), .string (⟨#[]⟩ : ByteArray), .slice none 0 0, .int .u64 0] 25 (0, 0)) := (hb_.block _ (blk_lt ((HQ.out.2.2.2.2.1.block _ (blk_lt HK.out)).trans HK.out))).trans ((HQ.out.2.2.2.2.1.block _ (blk_lt HK.out)).trans HK.out); have hcz0 : w'.cell? ⟨w.heap.size, 0, none⟩ = some (.int .i64 0) := (blk_cell hblk 0).trans rfl; have hfz0 := blk_frozen hblk 0; have hcz1 : w'.cell? ⟨w.heap.size, 1, none⟩ = some (.int .i64 0) := (blk_cell hblk 1).trans rfl; have hfz1 := blk_frozen hblk 1; have hcz2 : w'.cell? ⟨w.heap.size, 2, none⟩ = some (.int .i64 0) := (blk_cell hblk 2).trans rfl; have hfz2 := blk_frozen hblk 2; have hcz3 : w'.cell? ⟨w.heap.size, 3, none⟩ = some (.int .i64 0) := (blk_cell hblk 3).trans rfl; have hfz3 := blk_frozen hblk 3; have hcz4 : w'.cell? ⟨w.heap.size, 4, none⟩ = some (.int .i64 0) := (blk_cell hblk 4).trans rfl; have hfz4 := blk_frozen hblk 4; have hcz5 : w'.cell? ⟨w.heap.size, 5, none⟩ = some (.int .i64 0) := (blk_cell hblk 5).trans rfl; have hfz5 := blk_frozen hblk 5; have hcz6 : w'.cell? ⟨w.heap.size, 6, none⟩ = some (.string (⟨#[]⟩ : ByteArray)) := (blk_cell hblk 6).trans rfl; have hfz6 := blk_frozen hblk 6; have hcz7 : w'.cell? ⟨w.heap.size, 7, none⟩ = some (.string (⟨#[]⟩ : ByteArray)) := (blk_cell hblk 7).trans rfl; have hfz7 := blk_frozen hblk 7; have hcz8 : w'.cell? ⟨w.heap.size, 8, none⟩ = some (.slice none 0 0) := (blk_cell hblk 8).trans rfl; have hfz8 := blk_frozen hblk 8; have hcz9 : w'.cell? ⟨w.heap.size, 9, none⟩ = some (.int .u64 0) := (blk_cell hblk 9).trans rfl; have hfz9 := blk_frozen hblk 9; have HK2 := Lib.hid (And.intro hblk (below_then HQ.out.2.2.2.2.2 HQ.out.2.2.2.2.2.size hb_)); clear hd_ hb_ hblk)
            refine bodyPost_ret (results_ct rfl _ _ w.heap.size 25 #[.int .i64 0, .int .i64 0, .int .i64 0, .int .i64 0, .int .i64 0, .int .i64 0, .string (⟨#[]⟩ : ByteArray), .string (⟨#[]⟩ : ByteArray), .slice none 0 0, .int .u64 0] (0, 0) _ rfl (blk10 HK2.out.1) Tryd.underlying25 rfl (by kernel_rfl)) rfl ?_
            exact ⟨_, rfl, Kd.R_nil _ _ _ _ _, below10 HK2.out.2 (Nat.le_refl _)⟩
        · obtain rfl : i = 6 := by omega
          have hz : ¬ ((6 : Nat) : Int) < 6 := by omega
          have hx6 := Option.some.inj (show some (Sum.inr ns) = some x from hg)
          subst hx6
          obtain ⟨n0, n1, n2, n3, n4, n5, rfl⟩ : ∃ n0 n1 n2 n3 n4 n5, ns = [n0, n1, n2, n3, n4, n5] := by
            match ns, hn with
            | [n0, n1, n2, n3, n4, n5], _ => exact ⟨n0, n1, n2, n3, n4, n5, rfl⟩
          obtain ⟨⟨ls, el⟩, hgl, hd2⟩ := Option.bind_eq_some_iff.1 (show (rlegsF k v).bind (fun g => if g.2 = 0 then some (n0, n1, n2, n3, n4, n5, s, t, g.1, 0, 0) else some (decZ g.2)) = some (r1, r2, r3, r4, r5, r6, r7, r8, r9, r10, r11) from HFN.out)
          simp only at hd2
          obtain ⟨⟨us, eu⟩, hun, hgl2⟩ := Option.bind_eq_some_iff.1 (show (corebankref07_Unpack.f k v).bind (fun u => if u.2 = 0 then (if u.1.length ≤ 100000000 then rlegsGo k u.1 [] else none) else some ([], u.2)) = some (ls, el) from hgl)
          simp only at hgl2
          have hk0 : wr.heap[w.heap.size]? = some (.cells #[.int .i64 0, .int .i64 0, .int .i64 0, .int .i64 0, .int .i64 0, .int .i64 0, .string (⟨#[]⟩ : ByteArray), .string (⟨#[]⟩ : ByteArray), .slice none 0 0, .int .u64 0] 25 (0, 0)) := (hB.block _ (blk_lt HK.out)).trans HK.out
          obtain ⟨ad, ead, hs6⟩ := Kd.at_string (Kd.R_reads' HR.out).2.2 6 (by omega) (by simp)
          obtain ⟨ad', ead', hs7⟩ := Kd.at_string (Kd.R_reads' HR.out).2.2 7 (by omega) (by simp)
          subst ead
          obtain rfl := Option.some.inj ead'
          obtain ⟨ad', ead2, hs8⟩ := Kd.at_string (Kd.R_reads' HR.out).2.2 8 (by omega) (by simp)
          obtain rfl := Option.some.inj ead2
          obtain ⟨an, ean, ha0⟩ := Kd.at_int (Kd.R_reads' hRn).2.2 0 (by omega) (by simp)
          subst ean
          obtain ⟨an', ean1, ha1⟩ := Kd.at_int (Kd.R_reads' hRn).2.2 1 (by omega) (by simp)
          obtain rfl := Option.some.inj ean1
          obtain ⟨an', ean2, ha2⟩ := Kd.at_int (Kd.R_reads' hRn).2.2 2 (by omega) (by simp)
          obtain rfl := Option.some.inj ean2
          obtain ⟨an', ean3, ha3⟩ := Kd.at_int (Kd.R_reads' hRn).2.2 3 (by omega) (by simp)
          obtain rfl := Option.some.inj ean3
          obtain ⟨an', ean4, ha4⟩ := Kd.at_int (Kd.R_reads' hRn).2.2 4 (by omega) (by simp)
          obtain rfl := Option.some.inj ean4
          obtain ⟨an', ean5, ha5⟩ := Kd.at_int (Kd.R_reads' hRn).2.2 5 (by omega) (by simp)
          obtain rfl := Option.some.inj ean5
          replace ha0 : wr.cell? an = some (.int .i64 n0) := ha0
          replace ha1 : wr.cell? ⟨an.block, an.off + 1, none⟩ = some (.int .i64 n1) := ha1
          replace ha2 : wr.cell? ⟨an.block, an.off + 2, none⟩ = some (.int .i64 n2) := ha2
          replace ha3 : wr.cell? ⟨an.block, an.off + 3, none⟩ = some (.int .i64 n3) := ha3
          replace ha4 : wr.cell? ⟨an.block, an.off + 4, none⟩ = some (.int .i64 n4) := ha4
          replace ha5 : wr.cell? ⟨an.block, an.off + 5, none⟩ = some (.int .i64 n5) := ha5
          replace hs6 : W1.cell? ⟨ad.block, ad.off + 6, none⟩ = some (.string s) := hs6
          have hs6' : wr.cell? ⟨ad.block, ad.off + 6, none⟩ = some (.string s) := (hB.cell (World.block_lt_of_cell? _ _ hs6)).trans hs6
          replace hs7 : W1.cell? ⟨ad.block, ad.off + 7, none⟩ = some (.string t) := hs7
          have hs7' : wr.cell? ⟨ad.block, ad.off + 7, none⟩ = some (.string t) := (hB.cell (World.block_lt_of_cell? _ _ hs7)).trans hs7
          replace hs8 : W1.cell? ⟨ad.block, ad.off + 8, none⟩ = some (.string v) := hs8
          have hs8' : wr.cell? ⟨ad.block, ad.off + 8, none⟩ = some (.string v) := (hB.cell (World.block_lt_of_cell? _ _ hs8)).trans hs8
          have HV := Lib.hid (And.intro hs8' (And.intro hk0 (And.intro hbw hun)))
          clear hi hn hg hB hRn hs6 hs7 hs8 hs8' hk0 hbw ead' ead2 hlt hgl hun ean1 ean2 ean3 ean4 ean5
          go_wp2
          go_region_held3 (fun w' => w'.cell? an = some (.int .i64 n0) ∧ w'.cell? ⟨an.block, an.off + 1, none⟩ = some (.int .i64 n1) ∧ w'.cell? ⟨an.block, an.off + 2, none⟩ = some (.int .i64 n2) ∧ w'.cell? ⟨an.block, an.off + 3, none⟩ = some (.int .i64 n3) ∧ w'.cell? ⟨an.block, an.off + 4, none⟩ = some (.int .i64 n4) ∧ w'.cell? ⟨an.block, an.off + 5, none⟩ = some (.int .i64 n5) ∧ w'.cell? ⟨ad.block, ad.off + 6, none⟩ = some (.string s) ∧ w'.cell? ⟨ad.block, ad.off + 7, none⟩ = some (.string t))
            (first
              | go_keep
              | exact ⟨cell_drew_ (cell?_alloc_some_ _ ha0), cell_drew_ (cell?_alloc_some_ _ ha1), cell_drew_ (cell?_alloc_some_ _ ha2), cell_drew_ (cell?_alloc_some_ _ ha3), cell_drew_ (cell?_alloc_some_ _ ha4), cell_drew_ (cell?_alloc_some_ _ ha5), cell_drew_ (cell?_alloc_some_ _ hs6'), cell_drew_ (cell?_alloc_some_ _ hs7')⟩
              | exact ⟨cell?_alloc_some_ _ ha0, cell?_alloc_some_ _ ha1, cell?_alloc_some_ _ ha2, cell?_alloc_some_ _ ha3, cell?_alloc_some_ _ ha4, cell?_alloc_some_ _ ha5, cell?_alloc_some_ _ hs6', cell?_alloc_some_ _ hs7'⟩)
            (first | fail)
          clear ha0 ha1 ha2 ha3 ha4 ha5 hs6' hs7'
          obtain ⟨W3, hW3⟩ : ∃ W3, (wr.alloc (.cells #[.int .i64 n0, .int .i64 n1, .int .i64 n2, .int .i64 n3, .int .i64 n4, .int .i64 n5, .string s, .string t, .slice none 0 0, .int .u64 0] 25)).drew = W3 := ⟨_, rfl⟩
          rw [hW3]
          have ho3 : W3.heap[wr.heap.size]? = some (.cells #[.int .i64 n0, .int .i64 n1, .int .i64 n2, .int .i64 n3, .int .i64 n4, .int .i64 n5, .string s, .string t, .slice none 0 0, .int .u64 0] 25 (0, 0)) := by rw [← hW3]; exact heap_alloc_new wr _
          have hb3 : Below wr.heap.size wr W3 := by rw [← hW3]; exact (below_alloc (Below.refl _ _) _).drew
          have hk3 : W3.heap[w.heap.size]? = some (.cells #[.int .i64 0, .int .i64 0, .int .i64 0, .int .i64 0, .int .i64 0, .int .i64 0, .string (⟨#[]⟩ : ByteArray), .string (⟨#[]⟩ : ByteArray), .slice none 0 0, .int .u64 0] 25 (0, 0)) := (hb3.block _ (blk_lt HV.out.2.1)).trans HV.out.2.1
          have hbw3 : Below w.heap.size w W3 := below_then HV.out.2.2.1 HV.out.2.2.1.size hb3
          have hs8 : W3.cell? ⟨ad.block, ad.off + 8, none⟩ = some (.string v) := (hb3.cell (World.block_lt_of_cell? _ _ HV.out.1)).trans HV.out.1
          have hne3 : w.heap.size < wr.heap.size := blk_lt HV.out.2.1
          obtain ⟨g, hg⟩ : ∃ g, wr.heap.size = g := ⟨_, rfl⟩
          rw [hg] at ho3 hne3 ⊢
          have HW := Lib.hid (And.intro ho3 (And.intro hk3 (And.intro hbw3 hne3)))
          clear ho3 hb3 hk3 hbw3 hne3 hW3 hg
          by_cases heu : eu = 0
          case neg =>
            rw [if_neg heu] at hgl2
            obtain ⟨rfl, rfl⟩ := Prod.mk.inj (Option.some.inj hgl2)
            rw [if_neg heu] at hd2
            replace hd2 := Option.some.inj hd2
            unfold decZ at hd2
            simp only [Prod.mk.injEq] at hd2
            obtain ⟨rfl, rfl, rfl, rfl, rfl, rfl, rfl, rfl, rfl, rfl, rfl⟩ := hd2
            have helb : (eu != 0) = true := bne_iff_ne.2 heu
            go_wp2_with (go_at_call 49; refine (corebankref07_Unpack.calls k v us eu _ HV.out.2.2.2).mono ?_; rintro e5 W5 ⟨v5, rfl, hR5, hb5⟩; obtain ⟨A5, c5, rfl⟩ := Kd.R_slice hR5; have hob := (hb5.block _ (blk_lt HW.out.1)).trans HW.out.1; have hkb := (hb5.block _ (blk_lt HW.out.2.1)).trans HW.out.2.1; have hcz0 : W5.cell? ⟨w.heap.size, 0, none⟩ = some (.int .i64 0) := (blk_cell hkb 0).trans rfl; have hfz0 := blk_frozen hkb 0; have hcz1 : W5.cell? ⟨w.heap.size, 1, none⟩ = some (.int .i64 0) := (blk_cell hkb 1).trans rfl; have hfz1 := blk_frozen hkb 1; have hcz2 : W5.cell? ⟨w.heap.size, 2, none⟩ = some (.int .i64 0) := (blk_cell hkb 2).trans rfl; have hfz2 := blk_frozen hkb 2; have hcz3 : W5.cell? ⟨w.heap.size, 3, none⟩ = some (.int .i64 0) := (blk_cell hkb 3).trans rfl; have hfz3 := blk_frozen hkb 3; have hcz4 : W5.cell? ⟨w.heap.size, 4, none⟩ = some (.int .i64 0) := (blk_cell hkb 4).trans rfl; have hfz4 := blk_frozen hkb 4; have hcz5 : W5.cell? ⟨w.heap.size, 5, none⟩ = some (.int .i64 0) := (blk_cell hkb 5).trans rfl; have hfz5 := blk_frozen hkb 5; have hcz6 : W5.cell? ⟨w.heap.size, 6, none⟩ = some (.string (⟨#[]⟩ : ByteArray)) := (blk_cell hkb 6).trans rfl; have hfz6 := blk_frozen hkb 6; have hcz7 : W5.cell? ⟨w.heap.size, 7, none⟩ = some (.string (⟨#[]⟩ : ByteArray)) := (blk_cell hkb 7).trans rfl; have hfz7 := blk_frozen hkb 7; have hcz8 : W5.cell? ⟨w.heap.size, 8, none⟩ = some (.slice none 0 0) := (blk_cell hkb 8).trans rfl; have hfz8 := blk_frozen hkb 8; have hcz9 : W5.cell? ⟨w.heap.size, 9, none⟩ = some (.int .u64 0) := (blk_cell hkb 9).trans rfl; have hfz9 := blk_frozen hkb 9; have HY := Lib.hid (And.intro hkb hb5); clear hkb hb5 hob hR5)
            refine bodyPost_ret (results_ct rfl _ _ w.heap.size 25 #[.int .i64 0, .int .i64 0, .int .i64 0, .int .i64 0, .int .i64 0, .int .i64 0, .string (⟨#[]⟩ : ByteArray), .string (⟨#[]⟩ : ByteArray), .slice none 0 0, .int .u64 0] (0, 0) _ rfl (blk10 HY.out.1) Tryd.underlying25 rfl (by kernel_rfl)) rfl ?_
            exact ⟨_, rfl, Kd.R_nil _ _ _ _ _, below10 (below_then HW.out.2.2.1 HW.out.2.2.1.size HY.out.2) (Nat.le_refl _)⟩
          case pos =>
            subst heu
            rw [if_pos rfl] at hgl2
            by_cases hul : us.length ≤ 100000000
            case neg => rw [if_neg hul] at hgl2; cases hgl2
            rw [if_pos hul] at hgl2
            have HG := Lib.hid (And.intro hgl2 hd2)
            clear hgl2 hd2
            go_wp2_with (go_at_call 49; refine (corebankref07_Unpack.calls k v us 0 _ HV.out.2.2.2).mono ?_; rintro e5 W5 ⟨v5, rfl, hR5, hb5⟩; obtain ⟨A5, c5, rfl⟩ := Kd.R_slice hR5; have hob := (hb5.block _ (blk_lt HW.out.1)).trans HW.out.1; have hkb := (hb5.block _ (blk_lt HW.out.2.1)).trans HW.out.2.1; have HY := Lib.hid (And.intro hob (And.intro hkb (And.intro hR5 hb5))); clear hob hkb hR5 hb5)
            go_loopw [12] (fun v12 wr => ∃ (j : Nat) (A : Option Addr) (c : Nat) (acc : List S46), v12 = .int .i64 j ∧ Hid (j ≤ us.length ∧ acc.length = j ∧ rlegsGo k (us.drop j) acc = some (ls, el) ∧ Kd.R k46 46 wr w.heap.size (fun _ => True) (.slice A j c) acc ∧ wr.heap[g]? = some (.cells #[.int .i64 n0, .int .i64 n1, .int .i64 n2, .int .i64 n3, .int .i64 n4, .int .i64 n5, .string s, .string t, .slice A j c, .int .u64 0] 25 (0, 0)) ∧ wr.heap[w.heap.size]? = some (.cells #[.int .i64 0, .int .i64 0, .int .i64 0, .int .i64 0, .int .i64 0, .int .i64 0, .string (⟨#[]⟩ : ByteArray), .string (⟨#[]⟩ : ByteArray), .slice none 0 0, .int .u64 0] 25 (0, 0)) ∧ Kd.R Kd.string 9 wr W3.heap.size (fun _ => True) (.slice A5 us.length c5) us ∧ Below w.heap.size w wr)) (fun v12 _ => us.length - (intOf v12).toNat)
            case atStart => exact ⟨0, none, 0, [], rfl, Lib.hid ⟨by omega, rfl, HG.out.1, Kd.R_nil _ _ _ _ _, HY.out.1, HY.out.2.1, HY.out.2.2.1, below_then HW.out.2.2.1 HW.out.2.2.1.size HY.out.2.2.2⟩⟩
            case round =>
              obtain ⟨j, A, cc, acc, rfl, hh⟩ := hrel
              obtain ⟨hj, hn, hg, hRv, hog, hzb, hRs, hbw⟩ := hh.out
              clear hh
              by_cases hlt : j < us.length
              · obtain ⟨y, hdr, hry⟩ : ∃ y, us.drop j = y :: us.drop (j + 1) ∧ rdOf ByteArray.empty us (j : Int) = y := by
                  refine ⟨us[j], List.drop_eq_getElem_cons hlt, ?_⟩
                  unfold rdOf
                  rw [Int.toNat_natCast, List.getD_eq_getElem?_getD, List.getElem?_eq_getElem hlt]
                  rfl
                rw [hdr] at hg
                obtain ⟨⟨t1, t2, t3, et⟩, htk, hg2⟩ := Option.bind_eq_some_iff.1 (show (corebankref19_taken.f k y).bind (fun t => if t.2.2.2 = 0 then rlegsGo k (us.drop (j + 1)) (acc ++ [⟨t.1, t.2.1, t.2.2.1⟩]) else some ([], t.2.2.2)) = some (ls, el) from hg)
                simp only at hg2
                obtain ⟨asl, eas, hcell⟩ := Kd.at_string (Kd.R_reads' hRs).2.2 (j : Int) (by omega) (by omega)
                rw [hry, Int.toNat_natCast] at hcell
                subst eas
                have hi0 : (0 : Int) ≤ (j : Int) := by omega
                have hi1 : (j : Int) < (us.length : Int) := by omega
                have hw1 : IntKind.i64.wrap ((j : Int) + 1) = (j : Int) + 1 := by rw [IntKind.wrap_i64]; omega
                have HF := Lib.hid (And.intro hRv (And.intro hog (And.intro hzb (And.intro hbw (And.intro hRs (And.intro htk (And.intro hj hn)))))))
                clear hRv hog hzb hbw hRs htk hg hj hn hdr hry hlt
                by_cases het : et = 0
                · subst het
                  rw [if_pos rfl] at hg2
                  have HG2 := Lib.hid hg2
                  clear hg2
                  go_wp2_with (first | (go_at_call 51; go_loud (refine (corebankref19_taken.calls k y t1 t2 t3 0 _ HF.out.2.2.2.2.2.1).mono ?_; rintro e6 w' ⟨rfl, hb6⟩; have HT6 := Lib.hid (And.intro ((hb6.block _ (blk_lt HF.out.2.1)).trans HF.out.2.1) (And.intro ((hb6.block _ (blk_lt HF.out.2.2.1)).trans HF.out.2.2.1) hb6)); clear hb6); have hog8 : ∀ o, (w'.alloc o).cell? ⟨g, 8, none⟩ = some (.slice A j cc) := fun o => cell?_alloc_some_ o ((blk_cell HT6.out.1 8).trans rfl)) | (at_builtin; go_loud (refine Kd.R_append k46 (w0 := w) (W := (w'.alloc (.cells #[.int .i64 t1, .int .i64 t2, .string t3] 46))) w.heap.size rfl (.tmp 103) (.tmp 105) 22 46 (.agg #[.int .i64 0, .int .i64 0, .string ⟨#[]⟩]) 32 rfl Tryd.underlying22 info46 rfl (by decide) (by omega) (.slice A j cc) acc (⟨t1, t2, t3⟩ : S46) [.int .i64 t1, .int .i64 t2, .string t3] (fun _ => True) (fun _ => False) rfl (by rw [World.size_alloc]; rfl) ?aP (fun _ hk => hk.elim) ?aF ?aO ?aB ?aS ?aL ?_; (case aP => exact k46_mkM _ _ _ _); (case aF => exact (fun _ _ => trivial)); (case aO => exact Kd.R_alloc (Kd.R_below HF.out.1 HT6.out.2.2) _); (case aB => exact below_alloc (below_then HF.out.2.2.2.1 HF.out.2.2.2.1.size HT6.out.2.2) _); (case aS => exact (by have := HF.out.2.2.2.1.size; have := HT6.out.2.2.size; rw [World.size_alloc]; omega)); (case aL => exact (by have := HF.out.2.2.2.2.2.2.2; have := HF.out.2.2.2.2.2.2.1; omega)); intro v1 w1 ho hb hgr hat; obtain ⟨A1, c1, rfl⟩ := Kd.R_slice ho; have hog1 := blk_grown (blk_alloc HT6.out.1 _) hgr (Kd.R_ne (Kd.R_below HF.out.1 HT6.out.2.2) HT6.out.1 (by decide)); have hzb1 := blk_grown (blk_alloc HT6.out.2.1 _) hgr (Kd.R_ne (Kd.R_below HF.out.1 HT6.out.2.2) HT6.out.2.1 (by decide)); have hrs1 := Kd.R_over' (Kd.R_alloc (Kd.R_below HF.out.2.2.2.2.1 HT6.out.2.2) (.cells #[.int .i64 t1, .int .i64 t2, .string t3] 46)) (Kd.R_typed (Kd.R_alloc (Kd.R_below HF.out.1 HT6.out.2.2) (.cells #[.int .i64 t1, .int .i64 t2, .string t3] 46))) (by decide) hgr; have hc8 : w1.cell? ⟨g, 8, none⟩ = some (.slice A j cc) := (blk_cell hog1 8).trans rfl; have hf8 := blk_frozen hog1 8; have HO := Lib.hid (And.intro ho (And.intro hb (And.intro hog1 (And.intro hzb1 hrs1)))); clear ho hb hgr hat hog1 hzb1 hrs1)))
                  have hln : (acc ++ [(⟨t1, t2, t3⟩ : S46)]).length = j + 1 := by rw [List.length_append, HF.out.2.2.2.2.2.2.2]; rfl
                  have hne : w.heap.size ≠ g := by have := HW.out.2.2.2; omega
                  refine ⟨⟨j + 1, A1, c1, acc ++ [(⟨t1, t2, t3⟩ : S46)], ?_, Lib.hid ⟨by have := HF.out.2.2.2.2.2.2.1; omega, hln, HG2.out, ?_, ?_, ?_, ?_, ?_⟩⟩, ?_⟩
                  · rw [show ((j : Int) + 1) = ((j + 1 : Nat) : Int) by omega]
                  · have h6 := Kd.R_set HO.out.1 HO.out.2.2.1 (by decide) 8 (.slice A1 (acc ++ [(⟨t1, t2, t3⟩ : S46)]).length c1)
                    rw [hln] at h6
                    rw [HF.out.2.2.2.2.2.2.2]
                    exact h6
                  · rw [HF.out.2.2.2.2.2.2.2]
                    exact blk_put HO.out.2.2.1 8 _ rfl
                  · exact blk_far HO.out.2.2.2.1 hne _
                  · exact Kd.R_set HO.out.2.2.2.2 HO.out.2.2.1 (by decide) 8 _
                  · exact below_set HO.out.2.1 (by have := HW.out.2.2.2; omega)
                  · show us.length - ((j : Int) + 1).toNat < us.length - (j : Int).toNat
                    omega
                · rw [if_neg het] at hg2
                  obtain ⟨rfl, rfl⟩ := Prod.mk.inj (Option.some.inj hg2)
                  have hd2 := HG.out.2
                  rw [if_neg het] at hd2
                  replace hd2 := Option.some.inj hd2
                  unfold decZ at hd2
                  simp only [Prod.mk.injEq] at hd2
                  obtain ⟨rfl, rfl, rfl, rfl, rfl, rfl, rfl, rfl, rfl, rfl, rfl⟩ := hd2
                  have hetb : (et != 0) = true := bne_iff_ne.2 het
                  go_wp2_with (go_at_call 51; go_loud (refine (corebankref19_taken.calls k y t1 t2 t3 et _ HF.out.2.2.2.2.2.1).mono ?_; rintro e6 w' ⟨rfl, hb6⟩; have HT6 := Lib.hid (And.intro ((hb6.block _ (blk_lt HF.out.2.1)).trans HF.out.2.1) (And.intro ((hb6.block _ (blk_lt HF.out.2.2.1)).trans HF.out.2.2.1) hb6)); clear hb6); have hzA := blk_alloc HT6.out.2.1 (.cells #[.int .i64 t1, .int .i64 t2, .string t3] 46); have hcz0 : (w'.alloc (.cells #[.int .i64 t1, .int .i64 t2, .string t3] 46)).cell? ⟨w.heap.size, 0, none⟩ = some (.int .i64 0) := (blk_cell hzA 0).trans rfl; have hfz0 := blk_frozen hzA 0; have hcz1 : (w'.alloc (.cells #[.int .i64 t1, .int .i64 t2, .string t3] 46)).cell? ⟨w.heap.size, 1, none⟩ = some (.int .i64 0) := (blk_cell hzA 1).trans rfl; have hfz1 := blk_frozen hzA 1; have hcz2 : (w'.alloc (.cells #[.int .i64 t1, .int .i64 t2, .string t3] 46)).cell? ⟨w.heap.size, 2, none⟩ = some (.int .i64 0) := (blk_cell hzA 2).trans rfl; have hfz2 := blk_frozen hzA 2; have hcz3 : (w'.alloc (.cells #[.int .i64 t1, .int .i64 t2, .string t3] 46)).cell? ⟨w.heap.size, 3, none⟩ = some (.int .i64 0) := (blk_cell hzA 3).trans rfl; have hfz3 := blk_frozen hzA 3; have hcz4 : (w'.alloc (.cells #[.int .i64 t1, .int .i64 t2, .string t3] 46)).cell? ⟨w.heap.size, 4, none⟩ = some (.int .i64 0) := (blk_cell hzA 4).trans rfl; have hfz4 := blk_frozen hzA 4; have hcz5 : (w'.alloc (.cells #[.int .i64 t1, .int .i64 t2, .string t3] 46)).cell? ⟨w.heap.size, 5, none⟩ = some (.int .i64 0) := (blk_cell hzA 5).trans rfl; have hfz5 := blk_frozen hzA 5; have hcz6 : (w'.alloc (.cells #[.int .i64 t1, .int .i64 t2, .string t3] 46)).cell? ⟨w.heap.size, 6, none⟩ = some (.string (⟨#[]⟩ : ByteArray)) := (blk_cell hzA 6).trans rfl; have hfz6 := blk_frozen hzA 6; have hcz7 : (w'.alloc (.cells #[.int .i64 t1, .int .i64 t2, .string t3] 46)).cell? ⟨w.heap.size, 7, none⟩ = some (.string (⟨#[]⟩ : ByteArray)) := (blk_cell hzA 7).trans rfl; have hfz7 := blk_frozen hzA 7; have hcz8 : (w'.alloc (.cells #[.int .i64 t1, .int .i64 t2, .string t3] 46)).cell? ⟨w.heap.size, 8, none⟩ = some (.slice none 0 0) := (blk_cell hzA 8).trans rfl; have hfz8 := blk_frozen hzA 8; have hcz9 : (w'.alloc (.cells #[.int .i64 t1, .int .i64 t2, .string t3] 46)).cell? ⟨w.heap.size, 9, none⟩ = some (.int .u64 0) := (blk_cell hzA 9).trans rfl; have hfz9 := blk_frozen hzA 9; have HZ := Lib.hid hzA; clear hzA)
                  refine bodyPost_ret (results_ct rfl _ _ w.heap.size 25 #[.int .i64 0, .int .i64 0, .int .i64 0, .int .i64 0, .int .i64 0, .int .i64 0, .string (⟨#[]⟩ : ByteArray), .string (⟨#[]⟩ : ByteArray), .slice none 0 0, .int .u64 0] (0, 0) _ rfl (blk10 HZ.out) Tryd.underlying25 rfl (by kernel_rfl)) rfl ?_
                  exact ⟨_, rfl, Kd.R_nil _ _ _ _ _, below10 (below_alloc (below_then HF.out.2.2.2.1 HF.out.2.2.2.1.size HT6.out.2.2) _) (Nat.le_refl _)⟩
              · obtain rfl : j = us.length := by omega
                have hge : ¬ ((us.length : Int) < (us.length : Int)) := by omega
                rw [List.drop_length] at hg
                obtain ⟨rfl, rfl⟩ := Prod.mk.inj (Option.some.inj (show some (acc, (0 : Int)) = some (ls, el) from hg))
                have hd2 := HG.out.2
                rw [if_pos rfl] at hd2
                have hd3 := Option.some.inj hd2
                simp only [Prod.mk.injEq] at hd3
                obtain ⟨rfl, rfl, rfl, rfl, rfl, rfl, rfl, rfl, rfl, rfl, rfl⟩ := hd3
                have hcn0 : wr.cell? ⟨g, 0, none⟩ = some (.int .i64 n0) := (blk_cell hog 0).trans rfl
                have hcn1 : wr.cell? ⟨g, 1, none⟩ = some (.int .i64 n1) := (blk_cell hog 1).trans rfl
                have hcn2 : wr.cell? ⟨g, 2, none⟩ = some (.int .i64 n2) := (blk_cell hog 2).trans rfl
                have hcn3 : wr.cell? ⟨g, 3, none⟩ = some (.int .i64 n3) := (blk_cell hog 3).trans rfl
                have hcn4 : wr.cell? ⟨g, 4, none⟩ = some (.int .i64 n4) := (blk_cell hog 4).trans rfl
                have hcn5 : wr.cell? ⟨g, 5, none⟩ = some (.int .i64 n5) := (blk_cell hog 5).trans rfl
                have hcn6 : wr.cell? ⟨g, 6, none⟩ = some (.string s) := (blk_cell hog 6).trans rfl
                have hcn7 : wr.cell? ⟨g, 7, none⟩ = some (.string t) := (blk_cell hog 7).trans rfl
                have hcn8 : wr.cell? ⟨g, 8, none⟩ = some (.slice A us.length cc) := (blk_cell hog 8).trans rfl
                have hcn9 : wr.cell? ⟨g, 9, none⟩ = some (.int .u64 0) := (blk_cell hog 9).trans rfl
                have hcz0 : wr.cell? ⟨w.heap.size, 0, none⟩ = some (.int .i64 0) := (blk_cell hzb 0).trans rfl
                have hfz0 := blk_frozen hzb 0
                have hcz1 : wr.cell? ⟨w.heap.size, 1, none⟩ = some (.int .i64 0) := (blk_cell hzb 1).trans rfl
                have hfz1 := blk_frozen hzb 1
                have hcz2 : wr.cell? ⟨w.heap.size, 2, none⟩ = some (.int .i64 0) := (blk_cell hzb 2).trans rfl
                have hfz2 := blk_frozen hzb 2
                have hcz3 : wr.cell? ⟨w.heap.size, 3, none⟩ = some (.int .i64 0) := (blk_cell hzb 3).trans rfl
                have hfz3 := blk_frozen hzb 3
                have hcz4 : wr.cell? ⟨w.heap.size, 4, none⟩ = some (.int .i64 0) := (blk_cell hzb 4).trans rfl
                have hfz4 := blk_frozen hzb 4
                have hcz5 : wr.cell? ⟨w.heap.size, 5, none⟩ = some (.int .i64 0) := (blk_cell hzb 5).trans rfl
                have hfz5 := blk_frozen hzb 5
                have hcz6 : wr.cell? ⟨w.heap.size, 6, none⟩ = some (.string (⟨#[]⟩ : ByteArray)) := (blk_cell hzb 6).trans rfl
                have hfz6 := blk_frozen hzb 6
                have hcz7 : wr.cell? ⟨w.heap.size, 7, none⟩ = some (.string (⟨#[]⟩ : ByteArray)) := (blk_cell hzb 7).trans rfl
                have hfz7 := blk_frozen hzb 7
                have hcz8 : wr.cell? ⟨w.heap.size, 8, none⟩ = some (.slice none 0 0) := (blk_cell hzb 8).trans rfl
                have hfz8 := blk_frozen hzb 8
                have hcz9 : wr.cell? ⟨w.heap.size, 9, none⟩ = some (.int .u64 0) := (blk_cell hzb 9).trans rfl
                have hfz9 := blk_frozen hzb 9
                have HF := Lib.hid (And.intro hRv (And.intro hzb hbw))
                clear hRv hog hzb hbw hRs hlt hg hd2 hn
                go_wp2
                refine bodyPost_ret (results_ct rfl _ _ w.heap.size 25 #[.int .i64 n0, .int .i64 n1, .int .i64 n2, .int .i64 n3, .int .i64 n4, .int .i64 n5, .string s, .string t, .slice A us.length cc, .int .u64 0] (0, 0) _ rfl (blk10 HF.out.2.1) Tryd.underlying25 rfl (by kernel_rfl)) rfl ?_
                exact ⟨_, rfl, R10 HF.out.1 HF.out.2.1, below10 HF.out.2.2 (Nat.le_refl _)⟩
end Go.Proofs.YtkfgnjdchnpjeaaDoor

