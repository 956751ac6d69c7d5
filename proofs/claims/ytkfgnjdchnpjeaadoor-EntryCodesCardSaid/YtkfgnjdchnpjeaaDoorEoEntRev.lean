/- EntRev: what the law EntryCodes asks of it. -/
import Derived.Test.YtkfgnjdchnpjeaaDoorEoEntDec
import Derived.Test.YtkfgnjdchnpjeaaDoorEoQDx4
namespace Go.Proofs.YtkfgnjdchnpjeaaDoor
open Go.RowKit Go.Proofs.YtkfgnjdchnpjeaaDoor.QD Go.Proofs.YtkfgnjdchnpjeaaDoorW.PrintWords
set_option linter.unusedVariables false
set_option linter.unusedSimpArgs false

/-- Legs with negated amounts. -/
def negL (l : List S46) : List S46 := l.map fun x => ⟨x.f0, wrap64 (-x.f1), x.f2⟩
theorem negL_succ (l : List S46) (i : Nat) (hi : i < l.length) : negL (l.take (i + 1)) = negL (l.take i) ++ [⟨(rd_T46 l (i : Int)).f0, wrap64 (-(rd_T46 l (i : Int)).f1), (rd_T46 l (i : Int)).f2⟩] := by
  rw [List.take_add_one, List.getElem?_eq_getElem hi]
  unfold negL rd_T46
  rw [List.getD_eq_getElem?_getD, Int.toNat_natCast, List.getElem?_eq_getElem hi, List.map_append]
  rfl
theorem negL_len (l : List S46) : (negL l).length = l.length := by simp [negL]
def revT (s : ByteArray) : ByteArray := (⟨#[114, 101, 118, 101, 114, 115, 101, 32]⟩ : ByteArray) ++ s
def entry_Reverse.f (a0 a1 a2 a3 a4 a5 : Int) (a6 a7 : ByteArray) (l : List S46) (a9 : Int) (s : ByteArray) (b : Int) : Option EntR :=
  if l.length ≤ 100000 ∧ a6.size ≤ 1000000 then (entry_Check.f 100000 a0 a1 a2 a3 a4 a5 a6 a7 l a9).bind fun c => if c = 0 then (entry_key.f 100000 s).bind fun q => if q = true then (entry_day.f b).bind fun d => if d = true then some (0, b, a2, 11, 0, 0, s, revT a6, negL l, 0, 0) else some (decZ 1) else some (decZ 1) else some (decZ 1) else none
theorem two_new (w : World) (o1 o2 : Obj) : ((w.alloc o1).alloc o2).heap[w.heap.size + 1]? = some o2 := by
  have := heap_alloc_new (w.alloc o1) o2
  rw [World.size_alloc] at this
  exact this
theorem two_old (w : World) (o1 o2 : Obj) : ((w.alloc o1).alloc o2).heap[w.heap.size]? = some o1 := blk_alloc (heap_alloc_new w o1) o2
theorem two_below (w : World) (o1 o2 : Obj) : Below w.heap.size w ((w.alloc o1).alloc o2) := below_alloc (below_alloc (Below.refl _ _) _) _
theorem two_size (w : World) (o1 o2 : Obj) : ((w.alloc o1).alloc o2).heap.size = w.heap.size + 2 := by rw [World.size_alloc, World.size_alloc]
theorem drawn_below {W W' : World} (hd : Drawn0 W W') : Below W.heap.size W W' := by
  obtain ⟨m, rfl⟩ := hd
  exact pw_below_drewN (Below.refl _ _) m
set_option maxRecDepth 100000
set_option maxHeartbeats 4000000 in
theorem entry_Reverse.calls (a0 a1 a2 a3 a4 a5 : Int) (a6 a7 : ByteArray) (A0 : Option Addr) (c0 : Nat) (l0 : List S46) (a9 : Int) (s : ByteArray) (b : Int) (r1 r2 r3 r4 r5 r6 : Int) (r7 r8 : ByteArray) (r9 : List S46) (r10 r11 : Int) (w : World) (hr0 : Kd.C k46 w A0 l0.length l0) (hc0 : l0.length ≤ c0) (h : entry_Reverse.f a0 a1 a2 a3 a4 a5 a6 a7 l0 a9 s b = some (r1, r2, r3, r4, r5, r6, r7, r8, r9, r10, r11)) :
    Calls Tryd.prog 20 #[.agg #[.int .i64 a0, .int .i64 a1, .int .i64 a2, .int .i64 a3, .int .i64 a4, .int .i64 a5, .string a6, .string a7, .slice A0 l0.length c0, .int .u64 a9], .string s, .int .i64 b] w fun e w' => ∃ v8_ : Value, e = .returned (.tuple #[.agg #[.int .i64 r1, .int .i64 r2, .int .i64 r3, .int .i64 r4, .int .i64 r5, .int .i64 r6, .string r7, .string r8, v8_, .int .u64 r10], .int .i64 r11]) ∧ Kd.R k46 46 w' w.heap.size (fun _ => True) v8_ r9 ∧ Below w.heap.size w w' := by
  have hu25 := Tryd.underlying25
  have hu46 := Tryd.underlying46
  unfold entry_Reverse.f at h
  split at h
  case isFalse => cases h
  case isTrue hlim =>
  obtain ⟨c, hc, h⟩ := Option.bind_eq_some_iff.1 h
  have HR := Lib.hid hr0
  have HC := Lib.hid hc
  clear hr0 hc
  by_cases hcz : c = 0
  case neg =>
    rw [if_neg hcz] at h
    have hd2 := Option.some.inj h
    unfold decZ at hd2
    simp only [Prod.mk.injEq] at hd2
    obtain ⟨rfl, rfl, rfl, rfl, rfl, rfl, rfl, rfl, rfl, rfl, rfl⟩ := hd2
    clear h
    have hcb : (c != 0) = true := bne_iff_ne.2 hcz
    go_enter Tryd.func20, Tryd.ntmps20
    go_wp2_with (go_at_call 12; refine (entry_Check.calls 100000 a0 a1 a2 a3 a4 a5 a6 a7 A0 c0 l0 a9 c _ (Kd.C_below HR.out (two_below _ _ _)) hc0 HC.out).mono ?_; rintro e w1 ⟨rfl, hb_⟩; have HB1 := Lib.hid (And.intro ((hb_.block _ (by rw [two_size]; omega)).trans (two_old _ _ _)) (And.intro ((hb_.block _ (by rw [two_size]; omega)).trans (two_new _ _ _)) (below_then (two_below _ _ _) (by rw [two_size]; omega) hb_))); clear hb_; have hzb := HB1.out.2.1; have hcz0 : w1.cell? ⟨w.heap.size + 1, 0, none⟩ = some (.int .i64 0) := (blk_cell hzb 0).trans rfl; have hfz0 := blk_frozen hzb 0; have hcz1 : w1.cell? ⟨w.heap.size + 1, 1, none⟩ = some (.int .i64 0) := (blk_cell hzb 1).trans rfl; have hfz1 := blk_frozen hzb 1; have hcz2 : w1.cell? ⟨w.heap.size + 1, 2, none⟩ = some (.int .i64 0) := (blk_cell hzb 2).trans rfl; have hfz2 := blk_frozen hzb 2; have hcz3 : w1.cell? ⟨w.heap.size + 1, 3, none⟩ = some (.int .i64 0) := (blk_cell hzb 3).trans rfl; have hfz3 := blk_frozen hzb 3; have hcz4 : w1.cell? ⟨w.heap.size + 1, 4, none⟩ = some (.int .i64 0) := (blk_cell hzb 4).trans rfl; have hfz4 := blk_frozen hzb 4; have hcz5 : w1.cell? ⟨w.heap.size + 1, 5, none⟩ = some (.int .i64 0) := (blk_cell hzb 5).trans rfl; have hfz5 := blk_frozen hzb 5; have hcz6 : w1.cell? ⟨w.heap.size + 1, 6, none⟩ = some (.string (⟨#[]⟩ : ByteArray)) := (blk_cell hzb 6).trans rfl; have hfz6 := blk_frozen hzb 6; have hcz7 : w1.cell? ⟨w.heap.size + 1, 7, none⟩ = some (.string (⟨#[]⟩ : ByteArray)) := (blk_cell hzb 7).trans rfl; have hfz7 := blk_frozen hzb 7; have hcz8 : w1.cell? ⟨w.heap.size + 1, 8, none⟩ = some (.slice none 0 0) := (blk_cell hzb 8).trans rfl; have hfz8 := blk_frozen hzb 8; have hcz9 : w1.cell? ⟨w.heap.size + 1, 9, none⟩ = some (.int .u64 0) := (blk_cell hzb 9).trans rfl; have hfz9 := blk_frozen hzb 9)
    refine bodyPost_ret (results_ct rfl _ _ (w.heap.size + 1) 25 #[.int .i64 0, .int .i64 0, .int .i64 0, .int .i64 0, .int .i64 0, .int .i64 0, .string (⟨#[]⟩ : ByteArray), .string (⟨#[]⟩ : ByteArray), .slice none 0 0, .int .u64 0] (0, 0) _ rfl (blk10 HB1.out.2.1) Tryd.underlying25 rfl (by kernel_rfl)) rfl ?_
    exact ⟨_, rfl, Kd.R_nil _ _ _ _ _, below10 HB1.out.2.2 (Nat.le_succ _)⟩
  case pos =>
    subst hcz
    rw [if_pos rfl] at h
    obtain ⟨q, hq, h⟩ := Option.bind_eq_some_iff.1 h
    have HQ := Lib.hid hq
    clear hq
    cases q with
    | false =>
      rw [if_neg (by simp)] at h
      have hd2 := Option.some.inj h
      unfold decZ at hd2
      simp only [Prod.mk.injEq] at hd2
      obtain ⟨rfl, rfl, rfl, rfl, rfl, rfl, rfl, rfl, rfl, rfl, rfl⟩ := hd2
      clear h
      go_enter Tryd.func20, Tryd.ntmps20
      go_wp2_with (first | (go_at_call 12; refine (entry_Check.calls 100000 a0 a1 a2 a3 a4 a5 a6 a7 A0 c0 l0 a9 0 _ (Kd.C_below HR.out (two_below _ _ _)) hc0 HC.out).mono ?_; rintro e w1 ⟨rfl, hb_⟩; have HB1 := Lib.hid (And.intro ((hb_.block _ (by rw [two_size]; omega)).trans (two_old _ _ _)) (And.intro ((hb_.block _ (by rw [two_size]; omega)).trans (two_new _ _ _)) (below_then (two_below _ _ _) (by rw [two_size]; omega) hb_))); clear hb_) | (go_at_call 29; refine (entry_key.calls 100000 s false _ HQ.out).mono ?_; rintro e w2 ⟨rfl, hd_⟩; have hb_ := drawn_below hd_; have HB2 := Lib.hid (And.intro ((hb_.block _ (blk_lt HB1.out.1)).trans HB1.out.1) (And.intro ((hb_.block _ (blk_lt HB1.out.2.1)).trans HB1.out.2.1) (below_then HB1.out.2.2 HB1.out.2.2.size hb_))); clear hd_ hb_; have hzb := HB2.out.2.1; have hcz0 : w2.cell? ⟨w.heap.size + 1, 0, none⟩ = some (.int .i64 0) := (blk_cell hzb 0).trans rfl; have hfz0 := blk_frozen hzb 0; have hcz1 : w2.cell? ⟨w.heap.size + 1, 1, none⟩ = some (.int .i64 0) := (blk_cell hzb 1).trans rfl; have hfz1 := blk_frozen hzb 1; have hcz2 : w2.cell? ⟨w.heap.size + 1, 2, none⟩ = some (.int .i64 0) := (blk_cell hzb 2).trans rfl; have hfz2 := blk_frozen hzb 2; have hcz3 : w2.cell? ⟨w.heap.size + 1, 3, none⟩ = some (.int .i64 0) := (blk_cell hzb 3).trans rfl; have hfz3 := blk_frozen hzb 3; have hcz4 : w2.cell? ⟨w.heap.size + 1, 4, none⟩ = some (.int .i64 0) := (blk_cell hzb 4).trans rfl; have hfz4 := blk_frozen hzb 4; have hcz5 : w2.cell? ⟨w.heap.size + 1, 5, none⟩ = some (.int .i64 0) := (blk_cell hzb 5).trans rfl; have hfz5 := blk_frozen hzb 5; have hcz6 : w2.cell? ⟨w.heap.size + 1, 6, none⟩ = some (.string (⟨#[]⟩ : ByteArray)) := (blk_cell hzb 6).trans rfl; have hfz6 := blk_frozen hzb 6; have hcz7 : w2.cell? ⟨w.heap.size + 1, 7, none⟩ = some (.string (⟨#[]⟩ : ByteArray)) := (blk_cell hzb 7).trans rfl; have hfz7 := blk_frozen hzb 7; have hcz8 : w2.cell? ⟨w.heap.size + 1, 8, none⟩ = some (.slice none 0 0) := (blk_cell hzb 8).trans rfl; have hfz8 := blk_frozen hzb 8; have hcz9 : w2.cell? ⟨w.heap.size + 1, 9, none⟩ = some (.int .u64 0) := (blk_cell hzb 9).trans rfl; have hfz9 := blk_frozen hzb 9))
      refine bodyPost_ret (results_ct rfl _ _ (w.heap.size + 1) 25 #[.int .i64 0, .int .i64 0, .int .i64 0, .int .i64 0, .int .i64 0, .int .i64 0, .string (⟨#[]⟩ : ByteArray), .string (⟨#[]⟩ : ByteArray), .slice none 0 0, .int .u64 0] (0, 0) _ rfl (blk10 HB2.out.2.1) Tryd.underlying25 rfl (by kernel_rfl)) rfl ?_
      exact ⟨_, rfl, Kd.R_nil _ _ _ _ _, below10 HB2.out.2.2 (Nat.le_succ _)⟩
    | true =>
      rw [if_pos rfl] at h
      obtain ⟨d, hd, h⟩ := Option.bind_eq_some_iff.1 h
      have HD := Lib.hid hd
      clear hd
      cases d with
      | false =>
        rw [if_neg (by simp)] at h
        have hd2 := Option.some.inj h
        unfold decZ at hd2
        simp only [Prod.mk.injEq] at hd2
        obtain ⟨rfl, rfl, rfl, rfl, rfl, rfl, rfl, rfl, rfl, rfl, rfl⟩ := hd2
        clear h
        go_enter Tryd.func20, Tryd.ntmps20
        go_wp2_with (first | (go_at_call 12; refine (entry_Check.calls 100000 a0 a1 a2 a3 a4 a5 a6 a7 A0 c0 l0 a9 0 _ (Kd.C_below HR.out (two_below _ _ _)) hc0 HC.out).mono ?_; rintro e w1 ⟨rfl, hb_⟩; have HB1 := Lib.hid (And.intro ((hb_.block _ (by rw [two_size]; omega)).trans (two_old _ _ _)) (And.intro ((hb_.block _ (by rw [two_size]; omega)).trans (two_new _ _ _)) (below_then (two_below _ _ _) (by rw [two_size]; omega) hb_))); clear hb_) | (go_at_call 29; refine (entry_key.calls 100000 s true _ HQ.out).mono ?_; rintro e w2 ⟨rfl, hd_⟩; have hb_ := drawn_below hd_; have HB2 := Lib.hid (And.intro ((hb_.block _ (blk_lt HB1.out.1)).trans HB1.out.1) (And.intro ((hb_.block _ (blk_lt HB1.out.2.1)).trans HB1.out.2.1) (below_then HB1.out.2.2 HB1.out.2.2.size hb_))); clear hd_ hb_) | (go_at_call 31; refine (entry_day.calls b false _ HD.out).mono ?_; rintro e w3 ⟨rfl, hd_⟩; have hb_ := drawn_below hd_; have HB3 := Lib.hid (And.intro ((hb_.block _ (blk_lt HB2.out.1)).trans HB2.out.1) (And.intro ((hb_.block _ (blk_lt HB2.out.2.1)).trans HB2.out.2.1) (below_then HB2.out.2.2 HB2.out.2.2.size hb_))); clear hd_ hb_; have hzb := HB3.out.2.1; have hcz0 : w3.cell? ⟨w.heap.size + 1, 0, none⟩ = some (.int .i64 0) := (blk_cell hzb 0).trans rfl; have hfz0 := blk_frozen hzb 0; have hcz1 : w3.cell? ⟨w.heap.size + 1, 1, none⟩ = some (.int .i64 0) := (blk_cell hzb 1).trans rfl; have hfz1 := blk_frozen hzb 1; have hcz2 : w3.cell? ⟨w.heap.size + 1, 2, none⟩ = some (.int .i64 0) := (blk_cell hzb 2).trans rfl; have hfz2 := blk_frozen hzb 2; have hcz3 : w3.cell? ⟨w.heap.size + 1, 3, none⟩ = some (.int .i64 0) := (blk_cell hzb 3).trans rfl; have hfz3 := blk_frozen hzb 3; have hcz4 : w3.cell? ⟨w.heap.size + 1, 4, none⟩ = some (.int .i64 0) := (blk_cell hzb 4).trans rfl; have hfz4 := blk_frozen hzb 4; have hcz5 : w3.cell? ⟨w.heap.size + 1, 5, none⟩ = some (.int .i64 0) := (blk_cell hzb 5).trans rfl; have hfz5 := blk_frozen hzb 5; have hcz6 : w3.cell? ⟨w.heap.size + 1, 6, none⟩ = some (.string (⟨#[]⟩ : ByteArray)) := (blk_cell hzb 6).trans rfl; have hfz6 := blk_frozen hzb 6; have hcz7 : w3.cell? ⟨w.heap.size + 1, 7, none⟩ = some (.string (⟨#[]⟩ : ByteArray)) := (blk_cell hzb 7).trans rfl; have hfz7 := blk_frozen hzb 7; have hcz8 : w3.cell? ⟨w.heap.size + 1, 8, none⟩ = some (.slice none 0 0) := (blk_cell hzb 8).trans rfl; have hfz8 := blk_frozen hzb 8; have hcz9 : w3.cell? ⟨w.heap.size + 1, 9, none⟩ = some (.int .u64 0) := (blk_cell hzb 9).trans rfl; have hfz9 := blk_frozen hzb 9))
        refine bodyPost_ret (results_ct rfl _ _ (w.heap.size + 1) 25 #[.int .i64 0, .int .i64 0, .int .i64 0, .int .i64 0, .int .i64 0, .int .i64 0, .string (⟨#[]⟩ : ByteArray), .string (⟨#[]⟩ : ByteArray), .slice none 0 0, .int .u64 0] (0, 0) _ rfl (blk10 HB3.out.2.1) Tryd.underlying25 rfl (by kernel_rfl)) rfl ?_
        exact ⟨_, rfl, Kd.R_nil _ _ _ _ _, below10 HB3.out.2.2 (Nat.le_succ _)⟩
      | true =>
        rw [if_pos rfl] at h
        have hd2 := Option.some.inj h
        simp only [Prod.mk.injEq] at hd2
        obtain ⟨rfl, rfl, rfl, rfl, rfl, rfl, rfl, rfl, rfl, rfl, rfl⟩ := hd2
        clear h
        have hs8 : (9223372036854775807 < 8 + a6.size) = False := eq_false (by have := hlim.2; omega)
        go_enter Tryd.func20, Tryd.ntmps20
        go_wp2_with (first | (go_at_call 12; refine (entry_Check.calls 100000 a0 a1 a2 a3 a4 a5 a6 a7 A0 c0 l0 a9 0 _ (Kd.C_below HR.out (two_below _ _ _)) hc0 HC.out).mono ?_; rintro e w1 ⟨rfl, hb_⟩; have HB1 := Lib.hid (And.intro ((hb_.block _ (by rw [two_size]; omega)).trans (two_old _ _ _)) (And.intro ((hb_.block _ (by rw [two_size]; omega)).trans (two_new _ _ _)) (below_then (two_below _ _ _) (by rw [two_size]; omega) hb_))); clear hb_) | (go_at_call 29; refine (entry_key.calls 100000 s true _ HQ.out).mono ?_; rintro e w2 ⟨rfl, hd_⟩; have hb_ := drawn_below hd_; have HB2 := Lib.hid (And.intro ((hb_.block _ (blk_lt HB1.out.1)).trans HB1.out.1) (And.intro ((hb_.block _ (blk_lt HB1.out.2.1)).trans HB1.out.2.1) (below_then HB1.out.2.2 HB1.out.2.2.size hb_))); clear hd_ hb_) | (go_at_call 31; refine (entry_day.calls b true _ HD.out).mono ?_; rintro e w3 ⟨rfl, hd_⟩; have hb_ := drawn_below hd_; have HB3 := Lib.hid (And.intro ((hb_.block _ (blk_lt HB2.out.1)).trans HB2.out.1) (And.intro ((hb_.block _ (blk_lt HB2.out.2.1)).trans HB2.out.2.1) (below_then HB2.out.2.2 HB2.out.2.2.size hb_))); clear hd_ hb_; have heb := HB3.out.1; have hce2 : w3.cell? ⟨w.heap.size, 2, none⟩ = some (.int .i64 a2) := (blk_cell heb 2).trans rfl; have hce6 : w3.cell? ⟨w.heap.size, 6, none⟩ = some (.string a6) := (blk_cell heb 6).trans rfl; have hce8 : w3.cell? ⟨w.heap.size, 8, none⟩ = some (.slice A0 l0.length c0) := (blk_cell heb 8).trans rfl; have hceA : ∀ o, (w3.alloc o).cell? ⟨w.heap.size, 8, none⟩ = some (.slice A0 l0.length c0) := fun o => cell?_alloc_some_ o hce8))
        rw [show ((⟨#[114, 101, 118, 101, 114, 115, 101, 32]⟩ : ByteArray) ++ a6) = revT a6 from rfl]
        clear hce2 hce6 hce8 hceA heb hs8
        obtain ⟨W4, hW4⟩ : ∃ W4, w3.alloc (.cells #[.int .i64 0, .int .i64 b, .int .i64 a2, .int .i64 11, .int .i64 0, .int .i64 0, .string s, .string (revT a6), .slice none 0 0, .int .u64 0] 25) = W4 := ⟨_, rfl⟩
        rw [hW4]
        have ho4 : W4.heap[w3.heap.size]? = some (.cells #[.int .i64 0, .int .i64 b, .int .i64 a2, .int .i64 11, .int .i64 0, .int .i64 0, .string s, .string (revT a6), .slice none 0 0, .int .u64 0] 25 (0, 0)) := by rw [← hW4]; exact heap_alloc_new w3 _
        have hb4 : Below w3.heap.size w3 W4 := by rw [← hW4]; exact below_alloc (Below.refl _ _) _
        have h41 := (hb4.block _ (blk_lt HB3.out.1)).trans HB3.out.1
        have h42 := (hb4.block _ (blk_lt HB3.out.2.1)).trans HB3.out.2.1
        have h43 := below_then HB3.out.2.2 HB3.out.2.2.size hb4
        have hg3 : w.heap.size + 1 < w3.heap.size := blk_lt HB3.out.2.1
        obtain ⟨g, hg⟩ : ∃ g, w3.heap.size = g := ⟨_, rfl⟩
        rw [hg] at ho4 hg3 ⊢
        have HW := Lib.hid (And.intro ho4 (And.intro h41 (And.intro h42 (And.intro h43 hg3))))
        clear ho4 hb4 h41 h42 h43 hg3 HB1 HB2 HB3 hW4 hg HC HQ HD
        go_loopw [36] (fun v36 wr => ∃ (i : Nat) (A : Option Addr) (n c : Nat), v36 = .int .i64 i ∧ Hid (i ≤ l0.length ∧ n = i ∧ Kd.R k46 46 wr w.heap.size (fun _ => True) (.slice A n c) (negL (l0.take i)) ∧ wr.heap[g]? = some (.cells #[.int .i64 0, .int .i64 b, .int .i64 a2, .int .i64 11, .int .i64 0, .int .i64 0, .string s, .string (revT a6), .slice A n c, .int .u64 0] 25 (0, 0)) ∧ wr.heap[w.heap.size + 1]? = some (.cells #[.int .i64 0, .int .i64 0, .int .i64 0, .int .i64 0, .int .i64 0, .int .i64 0, .string (⟨#[]⟩ : ByteArray), .string (⟨#[]⟩ : ByteArray), .slice none 0 0, .int .u64 0] 25 (0, 0)) ∧ Below w.heap.size w wr)) (fun v36 _ => l0.length - (intOf v36).toNat)
        case atStart => exact ⟨0, none, 0, 0, rfl, Lib.hid ⟨by omega, rfl, Kd.R_nil _ _ _ _ _, HW.out.1, HW.out.2.2.1, HW.out.2.2.2.1⟩⟩
        case round =>
          obtain ⟨i, A, n, c, rfl, hh⟩ := hrel
          obtain ⟨hil, hn, hRv, hog, hzb, hbw⟩ := hh.out
          clear hh
          subst hn
          by_cases hlt : n < l0.length
          · obtain ⟨ad, ead, hx0, hx1, hx2⟩ := at_T46 (Kd.C_below HR.out hbw) (n : Int) (by omega) (by omega)
            obtain ⟨x, hx⟩ : ∃ x, rd_T46 l0 (n : Int) = x := ⟨_, rfl⟩
            have hsx := negL_succ l0 n hlt
            rw [hx] at hx0 hx1 hx2 hsx
            rw [Int.toNat_natCast] at hx0 hx1 hx2
            cases ead
            have hi0 : (0 : Int) ≤ (n : Int) := by omega
            have hi1 : (n : Int) < (l0.length : Int) := by omega
            have hw1 : IntKind.i64.wrap ((n : Int) + 1) = (n : Int) + 1 := by rw [IntKind.wrap_i64]; have := hlim.1; omega
            have hnl : (negL (l0.take n)).length = n := by rw [negL_len, List.length_take]; omega
            have hog8 : ∀ o, (wr.alloc o).cell? ⟨g, 8, none⟩ = some (.slice A n c) := fun o => cell?_alloc_some_ o ((blk_cell hog 8).trans rfl)
            have HF := Lib.hid (And.intro hRv (And.intro hog (And.intro hzb (And.intro hbw (And.intro hsx (And.intro hil hnl))))))
            clear hRv hog hzb hbw hsx hx hil hlt hnl
            go_wp2_with (at_builtin; go_loud (refine Kd.R_append k46 (w0 := w) (W := (wr.alloc (.cells #[.int .i64 x.f0, .int .i64 (wrap64 (-x.f1)), .string x.f2] 46))) w.heap.size rfl (.tmp 45) (.tmp 47) 22 46 (.agg #[.int .i64 0, .int .i64 0, .string ⟨#[]⟩]) 32 rfl Tryd.underlying22 info46 rfl (by decide) (by omega) (.slice A n c) (negL (l0.take n)) (⟨x.f0, wrap64 (-x.f1), x.f2⟩ : S46) [.int .i64 x.f0, .int .i64 (wrap64 (-x.f1)), .string x.f2] (fun _ => True) (fun _ => False) rfl (by rw [World.size_alloc]; rfl) ?aP (fun _ hk => hk.elim) ?aF ?aO ?aB ?aS ?aL ?_; (case aP => exact k46_mkM _ _ _ _); (case aF => exact (fun _ _ => trivial)); (case aO => exact Kd.R_alloc HF.out.1 _); (case aB => exact below_alloc HF.out.2.2.2.1 _); (case aS => exact (by have := HF.out.2.2.2.1.size; rw [World.size_alloc]; omega)); (case aL => exact (by have := HF.out.2.2.2.2.2.2; have := hlim.1; omega)); intro v1 w1 ho hb hgr hat; obtain ⟨A1, c1, rfl⟩ := Kd.R_slice ho; have hog1 := blk_grown (blk_alloc HF.out.2.1 _) hgr (Kd.R_ne HF.out.1 HF.out.2.1 (by decide)); have hzb1 := blk_grown (blk_alloc HF.out.2.2.1 _) hgr (Kd.R_ne HF.out.1 HF.out.2.2.1 (by decide)); have hc8 : w1.cell? ⟨g, 8, none⟩ = some (.slice A n c) := (blk_cell hog1 8).trans rfl; have hf8 := blk_frozen hog1 8; have HO := Lib.hid (And.intro ho (And.intro hb (And.intro hog1 hzb1))); clear ho hb hgr hat hog1 hzb1))
            have hne : w.heap.size + 1 ≠ g := by have := HW.out.2.2.2.2; omega
            refine ⟨⟨n + 1, A1, (negL (l0.take n)).length + 1, c1, ?_, Lib.hid ⟨by have := HF.out.2.2.2.2.2.1; omega, ?_, ?_, ?_, ?_, ?_⟩⟩, ?_⟩
            · rw [show ((n : Int) + 1) = ((n + 1 : Nat) : Int) by omega]
            · rw [HF.out.2.2.2.2.2.2]
            · rw [HF.out.2.2.2.2.1]
              have h6 := Kd.R_set HO.out.1 HO.out.2.2.1 (by decide) 8 (.slice A1 ((negL (l0.take n)).length + 1) c1)
              rw [List.length_append] at h6
              exact h6
            · exact blk_put HO.out.2.2.1 8 _ rfl
            · exact blk_far HO.out.2.2.2 hne _
            · exact below_set HO.out.2.1 (by have := HW.out.2.2.2.2; omega)
            · show l0.length - ((n : Int) + 1).toNat < l0.length - (n : Int).toNat
              have := HF.out.2.2.2.2.2.1
              omega
          · obtain rfl : n = l0.length := by omega
            have hge : ¬ ((l0.length : Int) < (l0.length : Int)) := by omega
            rw [List.take_length] at hRv
            have hcn0 : wr.cell? ⟨g, 0, none⟩ = some (.int .i64 0) := (blk_cell hog 0).trans rfl
            have hcn1 : wr.cell? ⟨g, 1, none⟩ = some (.int .i64 b) := (blk_cell hog 1).trans rfl
            have hcn2 : wr.cell? ⟨g, 2, none⟩ = some (.int .i64 a2) := (blk_cell hog 2).trans rfl
            have hcn3 : wr.cell? ⟨g, 3, none⟩ = some (.int .i64 11) := (blk_cell hog 3).trans rfl
            have hcn4 : wr.cell? ⟨g, 4, none⟩ = some (.int .i64 0) := (blk_cell hog 4).trans rfl
            have hcn5 : wr.cell? ⟨g, 5, none⟩ = some (.int .i64 0) := (blk_cell hog 5).trans rfl
            have hcn6 : wr.cell? ⟨g, 6, none⟩ = some (.string s) := (blk_cell hog 6).trans rfl
            have hcn7 : wr.cell? ⟨g, 7, none⟩ = some (.string (revT a6)) := (blk_cell hog 7).trans rfl
            have hcn8 : wr.cell? ⟨g, 8, none⟩ = some (.slice A l0.length c) := (blk_cell hog 8).trans rfl
            have hcn9 : wr.cell? ⟨g, 9, none⟩ = some (.int .u64 0) := (blk_cell hog 9).trans rfl
            have hcz0 : wr.cell? ⟨w.heap.size + 1, 0, none⟩ = some (.int .i64 0) := (blk_cell hzb 0).trans rfl
            have hfz0 := blk_frozen hzb 0
            have hcz1 : wr.cell? ⟨w.heap.size + 1, 1, none⟩ = some (.int .i64 0) := (blk_cell hzb 1).trans rfl
            have hfz1 := blk_frozen hzb 1
            have hcz2 : wr.cell? ⟨w.heap.size + 1, 2, none⟩ = some (.int .i64 0) := (blk_cell hzb 2).trans rfl
            have hfz2 := blk_frozen hzb 2
            have hcz3 : wr.cell? ⟨w.heap.size + 1, 3, none⟩ = some (.int .i64 0) := (blk_cell hzb 3).trans rfl
            have hfz3 := blk_frozen hzb 3
            have hcz4 : wr.cell? ⟨w.heap.size + 1, 4, none⟩ = some (.int .i64 0) := (blk_cell hzb 4).trans rfl
            have hfz4 := blk_frozen hzb 4
            have hcz5 : wr.cell? ⟨w.heap.size + 1, 5, none⟩ = some (.int .i64 0) := (blk_cell hzb 5).trans rfl
            have hfz5 := blk_frozen hzb 5
            have hcz6 : wr.cell? ⟨w.heap.size + 1, 6, none⟩ = some (.string (⟨#[]⟩ : ByteArray)) := (blk_cell hzb 6).trans rfl
            have hfz6 := blk_frozen hzb 6
            have hcz7 : wr.cell? ⟨w.heap.size + 1, 7, none⟩ = some (.string (⟨#[]⟩ : ByteArray)) := (blk_cell hzb 7).trans rfl
            have hfz7 := blk_frozen hzb 7
            have hcz8 : wr.cell? ⟨w.heap.size + 1, 8, none⟩ = some (.slice none 0 0) := (blk_cell hzb 8).trans rfl
            have hfz8 := blk_frozen hzb 8
            have hcz9 : wr.cell? ⟨w.heap.size + 1, 9, none⟩ = some (.int .u64 0) := (blk_cell hzb 9).trans rfl
            have hfz9 := blk_frozen hzb 9
            have HF := Lib.hid (And.intro hRv (And.intro hzb hbw))
            clear hRv hog hzb hbw hlt
            go_wp2
            refine bodyPost_ret (results_ct rfl _ _ (w.heap.size + 1) 25 #[.int .i64 0, .int .i64 b, .int .i64 a2, .int .i64 11, .int .i64 0, .int .i64 0, .string s, .string (revT a6), .slice A l0.length c, .int .u64 0] (0, 0) _ rfl (blk10 HF.out.2.1) Tryd.underlying25 rfl (by kernel_rfl)) rfl ?_
            exact ⟨_, rfl, R10 HF.out.1 HF.out.2.1, below10 HF.out.2.2 (Nat.le_succ _)⟩
end Go.Proofs.YtkfgnjdchnpjeaaDoor

