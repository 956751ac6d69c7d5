/- LivH: what the law EntryCodes asks of it. -/
import Derived.Test.YtkfgnjdchnpjeaaDoorEoEntRev
import Derived.Test.YtkfgnjdchnpjeaaDoorEoEntDel
import Derived.Test.YtkfgnjdchnpjeaaDoorEoQDx5
import Derived.KernelRfl
namespace Go.Proofs.YtkfgnjdchnpjeaaDoor
open Go Go.RowKit Go.Shelf Go.Lib Go.Proofs.YtkfgnjdchnpjeaaDoor.QD Go.Proofs.YtkfgnjdchnpjeaaDoorW.PrintWords
set_option linter.unusedVariables false
set_option linter.unusedSimpArgs false
abbrev bEur : ByteArray := ⟨#[69, 85, 82]⟩
abbrev bUsd : ByteArray := ⟨#[85, 83, 68]⟩
abbrev bK : ByteArray := ⟨#[107]⟩
abbrev bPaid : ByteArray := ⟨#[112, 97, 105, 100]⟩
abbrev bR : ByteArray := ⟨#[114]⟩
abbrev bRev : ByteArray := ⟨#[114, 101, 118, 101, 114, 115, 101, 32, 107]⟩
abbrev lP : List S46 := [⟨100, 500, bEur⟩, ⟨1000, -500, bEur⟩]
abbrev lR : List S46 := [⟨100, -500, bEur⟩, ⟨1000, 500, bEur⟩]
abbrev lX : List S46 := [⟨100, 500, bEur⟩, ⟨1000, -500, bUsd⟩]
abbrev lM : List S46 := [⟨1000, -5, bEur⟩, ⟨7, 2, bEur⟩, ⟨1000, 5, bEur⟩]
abbrev lN : List S46 := [⟨7, 2, bEur⟩]
abbrev cX : Array Value := #[.int .i64 100, .int .i64 500, .string bEur, .int .i64 1000, .int .i64 (-500), .string bUsd]
abbrev cP : Array Value := #[.int .i64 100, .int .i64 500, .string bEur, .int .i64 1000, .int .i64 (-500), .string bEur]
set_option maxRecDepth 100000
theorem ev_rev : entry_Reverse.f 0 5 4 1 0 0 bK bPaid lP 0 bR 9 = some (0, 9, 4, 11, 0, 0, bR, bRev, lR, 0, 0) := by kernel_rfl
theorem ev_code : (entry_Encode.f 0 5 4 1 0 0 bK bPaid lP 0).bind entry_Decode.f = some (0, 5, 4, 1, 0, 0, bK, bPaid, lP, 0, 0) := by kernel_rfl
theorem ev_net0 : entry_Net.f (lP ++ lR) = some [] := by kernel_rfl
theorem ev_net1 : entry_Net.f lM = some lN := by kernel_rfl
theorem ev_chk0 : entry_Check.f 1000 0 5 4 1 0 0 bK bPaid lP 0 = some 0 := by kernel_rfl
theorem ev_chk1 : entry_Check.f 1000 0 5 4 1 0 0 bK bPaid lX 0 = some 15 := by kernel_rfl
theorem ev_same : entry_Same.f 1000 0 5 4 1 0 0 bK bPaid lP 0 0 5 4 1 0 0 bK bPaid lP 0 = some true := by kernel_rfl
theorem ev_legs : corebankref19_SameLegs.f 1000 lN lN = some true := by kernel_rfl
theorem ev_sums : entry_Sums.f lX = some [⟨bEur, 500⟩, ⟨bUsd, -500⟩] := by kernel_rfl
/-- A row of legs in a block of its own. -/
theorem legs_C {w : World} {g : Nat} (l : List S46) (hl : l.length ≤ 100) (h : w.heap[g]? = some (.cells (rowL l).toArray 46 (0, 0))) : Kd.C k46 w (some ⟨g, 0, none⟩) l.length l :=
 (Kd.R_reads' (R_of_blk_L (base := 0) (cap := l.length) (Nat.zero_le _) h rfl (Nat.le_refl _) (by unfold maxLen; omega) (by simp [rowL_len]) (by show (rowL l).take (l.length * 3) = rowL l; rw [← rowL_len]; exact List.take_length))).2.2
theorem drawn_below' {W W' : World} (hd : Drawn0 W W') : Below W.heap.size W W' := by
 obtain ⟨m, rfl⟩ := hd
 exact pw_below_drewN (Below.refl _ _) m
set_option maxHeartbeats 4000000 in
theorem paid_calls (w : World) : Calls Tryd.prog 28 #[] w fun e w' => ∃ g, e = .returned (.agg #[.int .i64 0, .int .i64 5, .int .i64 4, .int .i64 1, .int .i64 0, .int .i64 0, .string bK, .string bPaid, .slice (some ⟨g, 0, none⟩) 2 2, .int .u64 0]) ∧ w.heap.size ≤ g ∧ w'.heap[g]? = some (.cells cP 46 (0, 0)) ∧ Below w.heap.size w w' := by
 have hu25 := Tryd.underlying25
 have hu46 := Tryd.underlying46
 go_enter Tryd.func28, Tryd.ntmps28
 go_wp2
 refine bodyPost_ret (results_single rfl (.cell w.heap.size 25 #[.int .i64 0, .int .i64 5, .int .i64 4, .int .i64 1, .int .i64 0, .int .i64 0, .string bK, .string bPaid, .slice (some ⟨w.heap.size + 1, 0, none⟩) 2 2, .int .u64 0] (0, 0) _ rfl (two_old w _ _) Tryd.underlying25 rfl (by kernel_rfl) .nil)) rfl ?_
 exact ⟨w.heap.size + 1, rfl, Nat.le_succ _, two_new w _ _, two_below w _ _⟩
theorem field8 (a0 a1 a2 a3 a4 a5 : Int) (a6 a7 : ByteArray) (A : Option Addr) (n c : Nat) (a9 : Int) : ∀ W, (Instr.field 25 (.agg #[.int .i64 a0, .int .i64 a1, .int .i64 a2, .int .i64 a3, .int .i64 a4, .int .i64 a5, .string a6, .string a7, .slice A n c, .int .u64 a9]) 8).run Tryd.prog W = .ok (.slice A n c) W := fun W => by rfl
theorem rowC {w : World} {base : Nat} {v : Value} {l : List S46} (n : Nat) (hn : l.length = n) (h : Kd.R k46 46 w base (fun _ => True) v l) : ∃ A c, v = .slice A n c ∧ n ≤ c ∧ Kd.C k46 w A n l := by
 obtain ⟨A, c, h1, h2, h3⟩ := Kd.R_reads h
 subst hn
 exact ⟨A, c, h1, h2, h3⟩
theorem pre1 {W w4 : World} (h : Below (W.alloc (.cells #[] 46)).drew.heap.size (W.alloc (.cells #[] 46)).drew w4) : Below W.heap.size W w4 ∧ w4.heap[W.heap.size]? = some (.cells #[] 46 (0, 0)) := by
 have h1 : (W.alloc (.cells #[] 46)).drew.heap[W.heap.size]? = some (.cells #[] 46 (0, 0)) := heap_alloc_new W _
 have h2 : Below W.heap.size W (W.alloc (.cells #[] 46)).drew := by
  have := below_alloc (Below.refl W.heap.size W) (.cells #[] 46)
  exact ⟨this.os, this.tape, this.output, this.size, this.block⟩
 have h3 : (W.alloc (.cells #[] 46)).drew.heap.size = W.heap.size + 1 := World.size_alloc _ _
 exact ⟨below_then h2 (by omega) h, (h.block _ (by omega)).trans h1⟩
theorem bt {a b c : World} (h : Below a.heap.size a b) (k : Below b.heap.size b c) : Below a.heap.size a c := below_then h h.size k
theorem bta {a c : World} {o : Obj} (k : Below (a.alloc o).heap.size (a.alloc o) c) : Below a.heap.size a c := bt (below_alloc (Below.refl _ _) o) k
theorem bdr (w : World) : Below w.heap.size w w.drew := by
 have h := Below.refl w.heap.size w
 exact ⟨h.os, h.tape, h.output, h.size, h.block⟩
theorem pre2 {W w4 : World} (h : Below W.drew.heap.size W.drew w4) : Below W.heap.size W w4 := ⟨h.os, h.tape, h.output, h.size, h.block⟩
set_option maxHeartbeats 4000000 in
theorem live_calls (w : World) (HTab_ : TabW w) : Calls Tryd.prog 11 #[] w fun e w' => e = .returned (.bool true) ∧ Below w.heap.size w w' := by
 have hu25 := Tryd.underlying25
 have hu46 := Tryd.underlying46
 have HT := Lib.hid HTab_
 clear HTab_
 go_enter Tryd.func11, Tryd.ntmps11
 go_upto_region 2 with (first
  | (go_at_call 28; refine (paid_calls _).mono ?_; rintro e w1 ⟨g1, rfl, hg1, hh1, hb1⟩; have H1 := Lib.hid (And.intro hg1 (And.intro hh1 hb1)); clear hg1 hh1 hb1)
  | (go_at_call 20; (refine (entry_Reverse.calls 0 5 4 1 0 0 bK bPaid (some ⟨g1, 0, none⟩) 2 lP 0 bR 9 0 9 4 11 0 0 bR bRev lR 0 0 w1 (legs_C lP (by decide) H1.out.2.1) (Nat.le_refl 2) ev_rev).mono ?_; rintro e w2 ⟨v2, rfl, hR2, hb2⟩; obtain ⟨A2, c2, rfl, hc2, hC2⟩ := rowC 2 rfl hR2; have H2 := Lib.hid (And.intro hc2 (And.intro hC2 (And.intro hR2 hb2))); clear hc2 hC2 hR2 hb2)))
 obtain ⟨W3, hW3⟩ : ∃ W3, w2.alloc (.cells #[.int .i64 0, .int .i64 9, .int .i64 4, .int .i64 11, .int .i64 0, .int .i64 0, .string bR, .string bRev, .slice A2 2 c2, .int .u64 0] 25) = W3 := ⟨_, rfl⟩
 rw [hW3]
 have hr3 : W3.heap[w2.heap.size]? = some (.cells #[.int .i64 0, .int .i64 9, .int .i64 4, .int .i64 11, .int .i64 0, .int .i64 0, .string bR, .string bRev, .slice A2 2 c2, .int .u64 0] 25 (0, 0)) := by rw [← hW3]; exact heap_alloc_new w2 _
 have hb3 : Below w2.heap.size w2 W3 := by rw [← hW3]; exact below_alloc (Below.refl _ _) _
 have hbw3 : Below w.heap.size w W3 := below_then (below_then H1.out.2.2 H1.out.2.2.size H2.out.2.2.2) (by have := H1.out.2.2.size; have := H2.out.2.2.2.size; omega) hb3
 obtain ⟨gR, hgR⟩ : ∃ gR, w2.heap.size = gR := ⟨_, rfl⟩
 have hC3 := Kd.C_below H2.out.2.1 hb3
 rw [hgR] at hr3 ⊢
 have hc2 := H2.out.1
 have H3 := Lib.hid (And.intro hr3 (And.intro hC3 (And.intro hbw3 hc2)))
 clear hr3 hb3 hC3 hbw3 hW3 hgR H1 H2 hc2
 go_cut [3] (fun v3 wc => ∃ (A : Option Addr) (c : Nat), v3 = .slice A 4 c ∧ Hid (4 ≤ c ∧ Kd.C k46 wc A 4 (lP ++ lR) ∧ Below W3.heap.size W3 wc))
 case first =>
  have hS3 : W3.cell? ⟨gR, 8, none⟩ = some (.slice A2 2 c2) := (blk_cell H3.out.1 8).trans rfl
  go_region_held3 (fun w' => w'.cell? ⟨gR, 8, none⟩ = some (.slice A2 2 c2))
   (first
    | go_keep
    | exact hS6
    | exact hS5
    | exact (H4.out.2.2.cell (World.block_lt_of_cell? _ _ hS3)).trans hS3
    | exact cell?_alloc_some_ _ ((H4.out.2.2.cell (World.block_lt_of_cell? _ _ hS3)).trans hS3)
    | exact cell?_alloc_some_ _ hS3)
   (first
    | (go_at_call 28; refine (paid_calls _).mono ?_; rintro e w4 ⟨g4, rfl, hg4, hh4, hb4⟩; obtain ⟨hb4', he4⟩ := pre1 (W := W3) hb4; have hfl := field8 0 5 4 1 0 0 bK bPaid (some ⟨g4, 0, none⟩) 2 2 0; have H4 := Lib.hid (And.intro he4 (And.intro hh4 hb4')); clear hg4 hh4 hb4 hb4' he4)
    | (go_at_call 28; refine (paid_calls _).mono ?_; rintro e w4 ⟨g4, rfl, hg4, hh4, hb4⟩; have hb4' := pre2 (W := W3) hb4; have hfl := field8 0 5 4 1 0 0 bK bPaid (some ⟨g4, 0, none⟩) 2 2 0; have H4 := Lib.hid (And.intro hg4 (And.intro hh4 hb4')); clear hg4 hh4 hb4 hb4')
    | (refine Kd.R_append_rows_step k46 (Rr := k46.K w4) (w0 := W3) W3.heap.size (by rfl) (.tmp 13) (.tmp 15) 22 46 (.agg #[.int .i64 0, .int .i64 0, .string ⟨#[]⟩]) 32 rfl Tryd.underlying22 info46 rfl (by decide) (by omega) (.slice (some ⟨W3.heap.size, 0, none⟩) 0 0) [] lP (some ⟨g4, 0, none⟩) 2 2 (fun _ => True) (fun _ => False) rfl rfl ?aO ?aR ?aK (fun _ h => h.elim) ?aF ?aB ?aS ?aL ?_; (case aK => exact (fun x cs h => by rw [k46_open h]; exact k46_mkM _ _ _ x)); (case aF => exact (fun _ _ => trivial)); (case aL => exact (by decide)); (case aR => exact legs_C lP (by decide) H4.out.2.1); (case aO => exact R_of_blk_L (cur := #[]) (l := []) (Nat.le_refl _) H4.out.1 rfl (Nat.le_refl _) (by decide) rfl rfl); (case aB => exact H4.out.2.2); (case aS => exact H4.out.2.2.size); intro v5 w5 ho hb hgr hat; obtain ⟨A5, c5, rfl⟩ := Kd.R_slice ho; have H5 := Lib.hid (And.intro ho hb); have hS5 := (hb.cell (World.block_lt_of_cell? _ _ hS3)).trans hS3; clear ho hb hgr hat)
    | (refine Kd.R_append_rows_step k46 (Rr := k46.K (w4.alloc (.cells #[] 46))) (w0 := W3) W3.heap.size (by rfl) (.tmp 13) (.tmp 15) 22 46 (.agg #[.int .i64 0, .int .i64 0, .string ⟨#[]⟩]) 32 rfl Tryd.underlying22 info46 rfl (by decide) (by omega) (.slice (some ⟨w4.heap.size, 0, none⟩) 0 0) [] lP (some ⟨g4, 0, none⟩) 2 2 (fun _ => True) (fun _ => False) rfl rfl ?aO ?aR ?aK (fun _ h => h.elim) ?aF ?aB ?aS ?aL ?_; (case aK => exact (fun x cs h => by rw [k46_open h]; exact k46_mkM _ _ _ x)); (case aF => exact (fun _ _ => trivial)); (case aL => exact (by decide)); (case aR => exact Kd.C_alloc (legs_C lP (by decide) H4.out.2.1) _); (case aO => exact R_of_blk_L (cur := #[]) (l := []) H4.out.2.2.size (heap_alloc_new w4 _) rfl (Nat.le_refl _) (by decide) rfl rfl); (case aB => exact below_alloc H4.out.2.2 _); (case aS => exact ((below_alloc H4.out.2.2 _).size)); intro v5 w5 ho hb hgr hat; obtain ⟨A5, c5, rfl⟩ := Kd.R_slice ho; have H5 := Lib.hid (And.intro ho hb); have hS5 := (hb.cell (World.block_lt_of_cell? _ _ hS3)).trans hS3; clear ho hb hgr hat)
    | (refine Kd.R_append_rows_step k46 (Rr := k46.K w5) (w0 := W3) W3.heap.size (by rfl) (.tmp 16) (.tmp 18) 22 46 (.agg #[.int .i64 0, .int .i64 0, .string ⟨#[]⟩]) 32 rfl Tryd.underlying22 info46 rfl (by decide) (by omega) (.slice A5 2 c5) lP lR A2 2 c2 (fun _ => True) (fun _ => False) rfl rfl ?aO ?aR ?aK (fun _ h => h.elim) ?aF ?aB ?aS ?aL ?_; (case aK => exact (fun x cs h => by rw [k46_open h]; exact k46_mkM _ _ _ x)); (case aF => exact (fun _ _ => trivial)); (case aL => exact (by decide)); (case aR => exact Kd.C_below H3.out.2.1 H5.out.2); (case aO => exact H5.out.1); (case aB => exact H5.out.2); (case aS => exact H5.out.2.size); intro v6 w6 ho hb hgr hat; obtain ⟨A6, c6, rfl, hc6, hC6⟩ := rowC 4 rfl ho; have H6 := Lib.hid (And.intro hc6 (And.intro hC6 hb)); have hS6 := (hb.cell (World.block_lt_of_cell? _ _ hS3)).trans hS3; clear ho hb hgr hat hc6 hC6))
  all_goals (go_wp2_with (fail); go_meet; case rel => exact ⟨A6, c6, rfl, H6⟩)
 case rest =>
  obtain ⟨A3, c3, rfl, H4⟩ := hcut
  obtain ⟨sE, hEn, hDe⟩ := Option.bind_eq_some_iff.mp ev_code
  go_upto_region 4 with (first
   | (go_at_call 28; refine (paid_calls _).mono ?_; rintro e w5 ⟨g5, rfl, hg5, hh5, hb5⟩; have H5 := Lib.hid (And.intro hg5 (And.intro hh5 hb5)); clear hg5 hh5 hb5)
   | (go_at_call 25; (refine (entry_Encode.calls 0 5 4 1 0 0 bK bPaid (some ⟨g5, 0, none⟩) 2 lP 0 sE w5 (legs_C lP (by decide) H5.out.2.1) (Nat.le_refl 2) ?tab hEn).mono ?_; (case tab => exact HT.out.below (bt (bt H3.out.2.2.1 H4.out.2.2) H5.out.2.2)); rintro e w6 ⟨rfl, hb6⟩; have H6 := Lib.hid hb6; clear hb6))
   | (go_at_call 23; (refine (entry_Decode.calls sE 0 5 4 1 0 0 bK bPaid lP 0 0 w6 ?tab hDe).mono ?_; (case tab => exact HT.out.below (bt (bt (bt H3.out.2.2.1 H4.out.2.2) H5.out.2.2) H6.out)); rintro e w7 ⟨v7, rfl, hR7, hb7⟩; obtain ⟨A7, c7, rfl, hc7, hC7⟩ := rowC 2 rfl hR7; have H7 := Lib.hid (And.intro hc7 (And.intro hC7 (And.intro hR7 hb7))); clear hc7 hC7 hR7 hb7)))
  obtain ⟨W8, hW8⟩ : ∃ W8, w7.alloc (.cells #[.int .i64 0, .int .i64 5, .int .i64 4, .int .i64 1, .int .i64 0, .int .i64 0, .string bK, .string bPaid, .slice A7 2 c7, .int .u64 0] 25) = W8 := ⟨_, rfl⟩
  rw [hW8]
  have hd8 : W8.heap[w7.heap.size]? = some (.cells #[.int .i64 0, .int .i64 5, .int .i64 4, .int .i64 1, .int .i64 0, .int .i64 0, .string bK, .string bPaid, .slice A7 2 c7, .int .u64 0] 25 (0, 0)) := by rw [← hW8]; exact heap_alloc_new w7 _
  have hb78 : Below w7.heap.size w7 W8 := by rw [← hW8]; exact below_alloc (Below.refl _ _) _
  have hb48 : Below wc.heap.size wc W8 := bt (bt (bt H5.out.2.2 H6.out) H7.out.2.2.2) hb78
  have hr8 := blk_below (blk_below H3.out.1 H4.out.2.2) hb48
  have hA8 := Kd.C_below H4.out.2.1 hb48
  have hD8 := Kd.C_below H7.out.2.1 hb78
  have hw8 := bt (bt H3.out.2.2.1 H4.out.2.2) hb48
  have hc3 := H4.out.1
  have hc7 := H7.out.1
  obtain ⟨gD, hgD⟩ : ∃ gD, w7.heap.size = gD := ⟨_, rfl⟩
  rw [hgD] at hd8 ⊢
  have H8 := Lib.hid (And.intro hr8 (And.intro hd8 (And.intro hA8 (And.intro hD8 (And.intro hw8 (And.intro hc3 hc7))))))
  clear hr8 hd8 hA8 hD8 hw8 hc3 hc7 hgD hb78 hb48 hW8 H3 H4 H5 H6 H7 hEn hDe HT
  go_upto_region 5 with (first
   | (go_at_call 28; refine (paid_calls _).mono ?_; rintro e w9 ⟨g9, rfl, hg9, hh9, hb9⟩; have H9 := Lib.hid (And.intro hg9 (And.intro hh9 hb9)); clear hg9 hh9 hb9))
  obtain ⟨W10, hW10⟩ : ∃ W10, w9.alloc (.cells #[.int .i64 0, .int .i64 5, .int .i64 4, .int .i64 1, .int .i64 0, .int .i64 0, .string bK, .string bPaid, .slice (some ⟨g9, 0, none⟩) 2 2, .int .u64 0] 25) = W10 := ⟨_, rfl⟩
  rw [hW10]
  have hx10 : W10.heap[w9.heap.size]? = some (.cells #[.int .i64 0, .int .i64 5, .int .i64 4, .int .i64 1, .int .i64 0, .int .i64 0, .string bK, .string bPaid, .slice (some ⟨g9, 0, none⟩) 2 2, .int .u64 0] 25 (0, 0)) := by rw [← hW10]; exact heap_alloc_new w9 _
  have hb9 : Below w9.heap.size w9 W10 := by rw [← hW10]; exact below_alloc (Below.refl _ _) _
  have hl10 := blk_below H9.out.2.1 hb9
  have hb10 := bt H9.out.2.2 hb9
  have hg9 := H9.out.1
  obtain ⟨gX, hgX⟩ : ∃ gX, w9.heap.size = gX := ⟨_, rfl⟩
  rw [hgX] at hx10 ⊢
  have H10 := Lib.hid (And.intro hx10 (And.intro hl10 (And.intro hb10 hg9)))
  clear hgX hb9 hW10 H9 hg9 hl10 hx10 hb10
  have hl8 : W10.cell? ⟨gX, 8, none⟩ = some (.slice (some ⟨g9, 0, none⟩) 2 2) := (blk_cell H10.out.1 8).trans rfl
  have hl5 : W10.cell? ⟨g9, 5, none⟩ = some (.string bEur) := (blk_cell H10.out.2.1 5).trans rfl
  have hf5 := blk_frozen H10.out.2.1 5
  go_upto_region 6 with (fail)
  obtain ⟨W12, hW12⟩ : ∃ W12, W10.setCell ⟨g9, 5, none⟩ (.string bUsd) = W12 := ⟨_, rfl⟩
  rw [hW12]
  have hb12 : Below W8.heap.size W8 W12 := by rw [← hW12]; exact below_set H10.out.2.2.1 H10.out.2.2.2
  have hl12 : W12.heap[g9]? = some (.cells cX 46 (0, 0)) := by rw [← hW12]; exact blk_put H10.out.2.1 5 (.string bUsd) rfl
  have hx12 : W12.heap[gX]? = some (.cells #[.int .i64 0, .int .i64 5, .int .i64 4, .int .i64 1, .int .i64 0, .int .i64 0, .string bK, .string bPaid, .slice (some ⟨g9, 0, none⟩) 2 2, .int .u64 0] 25 (0, 0)) := by rw [← hW12]; exact blk_far H10.out.1 (p := ⟨g9, 5, none⟩) (blk_ne H10.out.1 H10.out.2.1 (by decide)) _
  have H12 := Lib.hid (And.intro hx12 (And.intro hl12 hb12))
  clear hx12 hl12 hb12 hW12 hl8 hl5 hf5 H10
  go_upto_region 7 with (first
   | (go_at_call 18; refine (entry_Net.calls (some ⟨W12.heap.size, 0, none⟩) 3 lM lN _ (legs_C lM (by decide) (heap_alloc_new W12 _)) (Nat.le_refl 3) ev_net1).mono ?_; rintro e w14 ⟨v14, rfl, hR14, hb14⟩; obtain ⟨A14, c14, rfl, hc14, hC14⟩ := rowC 1 rfl hR14; have H14 := Lib.hid (And.intro hc14 (And.intro hC14 (bta hb14))); clear hc14 hC14 hR14 hb14))
  have hb14 := bt H12.out.2.2 H14.out.2.2
  have HF := Lib.hid (And.intro (blk_below H8.out.1 hb14) (And.intro (blk_below H8.out.2.1 hb14) (And.intro (blk_below H12.out.1 H14.out.2.2) (And.intro (blk_below H12.out.2.1 H14.out.2.2) (And.intro (Kd.C_below H8.out.2.2.1 hb14) (And.intro (Kd.C_below H8.out.2.2.2.1 hb14) (And.intro H14.out.2.1 (And.intro (bt H8.out.2.2.2.2.1 hb14) (And.intro H8.out.2.2.2.2.2.1 (And.intro H8.out.2.2.2.2.2.2 H14.out.1))))))))))
  clear hb14 H8 H12 H14
  have HS : Hid (∀ w', Below w14.heap.size w14 w' → w'.cell? ⟨gR, 2, none⟩ = some (.int .i64 4) ∧ w'.cell? ⟨gR, 7, none⟩ = some (.string bRev) ∧ w'.cell? ⟨gR, 8, none⟩ = some (.slice A2 2 c2) ∧ w'.cell? ⟨gD, 0, none⟩ = some (.int .i64 0) ∧ w'.cell? ⟨gD, 1, none⟩ = some (.int .i64 5) ∧ w'.cell? ⟨gD, 2, none⟩ = some (.int .i64 4) ∧ w'.cell? ⟨gD, 3, none⟩ = some (.int .i64 1) ∧ w'.cell? ⟨gD, 4, none⟩ = some (.int .i64 0) ∧ w'.cell? ⟨gD, 5, none⟩ = some (.int .i64 0) ∧ w'.cell? ⟨gD, 6, none⟩ = some (.string bK) ∧ w'.cell? ⟨gD, 7, none⟩ = some (.string bPaid) ∧ w'.cell? ⟨gD, 8, none⟩ = some (.slice A7 2 c7) ∧ w'.cell? ⟨gD, 9, none⟩ = some (.int .u64 0) ∧ w'.cell? ⟨gX, 0, none⟩ = some (.int .i64 0) ∧ w'.cell? ⟨gX, 1, none⟩ = some (.int .i64 5) ∧ w'.cell? ⟨gX, 2, none⟩ = some (.int .i64 4) ∧ w'.cell? ⟨gX, 3, none⟩ = some (.int .i64 1) ∧ w'.cell? ⟨gX, 4, none⟩ = some (.int .i64 0) ∧ w'.cell? ⟨gX, 5, none⟩ = some (.int .i64 0) ∧ w'.cell? ⟨gX, 6, none⟩ = some (.string bK) ∧ w'.cell? ⟨gX, 7, none⟩ = some (.string bPaid) ∧ w'.cell? ⟨gX, 8, none⟩ = some (.slice (some ⟨g9, 0, none⟩) 2 2) ∧ w'.cell? ⟨gX, 9, none⟩ = some (.int .u64 0)) := Lib.hid (fun w' hb => ⟨(blk_cell (blk_below HF.out.1 hb) 2).trans rfl, (blk_cell (blk_below HF.out.1 hb) 7).trans rfl, (blk_cell (blk_below HF.out.1 hb) 8).trans rfl, (blk_cell (blk_below HF.out.2.1 hb) 0).trans rfl, (blk_cell (blk_below HF.out.2.1 hb) 1).trans rfl, (blk_cell (blk_below HF.out.2.1 hb) 2).trans rfl, (blk_cell (blk_below HF.out.2.1 hb) 3).trans rfl, (blk_cell (blk_below HF.out.2.1 hb) 4).trans rfl, (blk_cell (blk_below HF.out.2.1 hb) 5).trans rfl, (blk_cell (blk_below HF.out.2.1 hb) 6).trans rfl, (blk_cell (blk_below HF.out.2.1 hb) 7).trans rfl, (blk_cell (blk_below HF.out.2.1 hb) 8).trans rfl, (blk_cell (blk_below HF.out.2.1 hb) 9).trans rfl, (blk_cell (blk_below HF.out.2.2.1 hb) 0).trans rfl, (blk_cell (blk_below HF.out.2.2.1 hb) 1).trans rfl, (blk_cell (blk_below HF.out.2.2.1 hb) 2).trans rfl, (blk_cell (blk_below HF.out.2.2.1 hb) 3).trans rfl, (blk_cell (blk_below HF.out.2.2.1 hb) 4).trans rfl, (blk_cell (blk_below HF.out.2.2.1 hb) 5).trans rfl, (blk_cell (blk_below HF.out.2.2.1 hb) 6).trans rfl, (blk_cell (blk_below HF.out.2.2.1 hb) 7).trans rfl, (blk_cell (blk_below HF.out.2.2.1 hb) 8).trans rfl, (blk_cell (blk_below HF.out.2.2.1 hb) 9).trans rfl⟩)
  have hS := HS.out w14 (Below.refl _ _)
  have HB := Lib.hid (Below.refl w14.heap.size w14)
  go_region_held3 (fun w' => w'.cell? ⟨gR, 2, none⟩ = some (.int .i64 4) ∧ w'.cell? ⟨gR, 7, none⟩ = some (.string bRev) ∧ w'.cell? ⟨gR, 8, none⟩ = some (.slice A2 2 c2) ∧ w'.cell? ⟨gD, 0, none⟩ = some (.int .i64 0) ∧ w'.cell? ⟨gD, 1, none⟩ = some (.int .i64 5) ∧ w'.cell? ⟨gD, 2, none⟩ = some (.int .i64 4) ∧ w'.cell? ⟨gD, 3, none⟩ = some (.int .i64 1) ∧ w'.cell? ⟨gD, 4, none⟩ = some (.int .i64 0) ∧ w'.cell? ⟨gD, 5, none⟩ = some (.int .i64 0) ∧ w'.cell? ⟨gD, 6, none⟩ = some (.string bK) ∧ w'.cell? ⟨gD, 7, none⟩ = some (.string bPaid) ∧ w'.cell? ⟨gD, 8, none⟩ = some (.slice A7 2 c7) ∧ w'.cell? ⟨gD, 9, none⟩ = some (.int .u64 0) ∧ w'.cell? ⟨gX, 0, none⟩ = some (.int .i64 0) ∧ w'.cell? ⟨gX, 1, none⟩ = some (.int .i64 5) ∧ w'.cell? ⟨gX, 2, none⟩ = some (.int .i64 4) ∧ w'.cell? ⟨gX, 3, none⟩ = some (.int .i64 1) ∧ w'.cell? ⟨gX, 4, none⟩ = some (.int .i64 0) ∧ w'.cell? ⟨gX, 5, none⟩ = some (.int .i64 0) ∧ w'.cell? ⟨gX, 6, none⟩ = some (.string bK) ∧ w'.cell? ⟨gX, 7, none⟩ = some (.string bPaid) ∧ w'.cell? ⟨gX, 8, none⟩ = some (.slice (some ⟨g9, 0, none⟩) 2 2) ∧ w'.cell? ⟨gX, 9, none⟩ = some (.int .u64 0))
   (first
    | (with_reducible exact HS.out _ HB.out)
    | (with_reducible exact HS.out _ (bt HB.out (below_alloc (Below.refl _ _) _)))
    | (with_reducible exact HS.out _ (bt HB.out (bdr _))))
   (first
    | (go_at_call 28; refine (paid_calls _).mono ?_; rintro e w15 ⟨g15, rfl, hg15, hh15, hb15⟩; (first | (have HN := Lib.hid (bt HB.out hb15)) | (have HN := Lib.hid (bt HB.out (bta hb15))) | (have HN := Lib.hid (bt HB.out (pre2 hb15)))); have HB := HN; clear HN; have H15 := Lib.hid hh15; clear hg15 hh15 hb15)
    | (go_at_call 12; (with_reducible show Calls _ _ #[Value.agg #[_, _, _, _, _, _, _, _, Value.slice (some ⟨g9, 0, none⟩) _ _, _]] _ _); (refine (entry_Check.calls 1000 0 5 4 1 0 0 bK bPaid (some ⟨g9, 0, none⟩) 2 lX 0 15 _ (legs_C lX (by decide) (blk_below HF.out.2.2.2.1 HB.out)) (Nat.le_refl 2) ev_chk1).mono ?_; rintro e w19 ⟨rfl, hb19⟩; (first | (have HN := Lib.hid (bt HB.out hb19)) | (have HN := Lib.hid (bt HB.out (bta hb19))) | (have HN := Lib.hid (bt HB.out (pre2 hb19)))); have HB := HN; clear HN hb19))
    | (go_at_call 12; refine (entry_Check.calls 1000 0 5 4 1 0 0 bK bPaid (some ⟨g15, 0, none⟩) 2 lP 0 0 _ (legs_C lP (by decide) H15.out) (Nat.le_refl 2) ev_chk0).mono ?_; rintro e w16 ⟨rfl, hb16⟩; (first | (have HN := Lib.hid (bt HB.out hb16)) | (have HN := Lib.hid (bt HB.out (bta hb16))) | (have HN := Lib.hid (bt HB.out (pre2 hb16)))); have HB := HN; clear HN; clear hb16)
    | (go_at_call 18; (refine (entry_Net.calls A3 c3 (lP ++ lR) [] _ (Kd.C_below HF.out.2.2.2.2.1 HB.out) HF.out.2.2.2.2.2.2.2.2.1 ev_net0).mono ?_; rintro e w17 ⟨v17, rfl, hR17, hb17⟩; obtain ⟨A17, c17, rfl, hc17, hC17⟩ := rowC 0 rfl hR17; (first | (have HN := Lib.hid (bt HB.out hb17)) | (have HN := Lib.hid (bt HB.out (bta hb17))) | (have HN := Lib.hid (bt HB.out (pre2 hb17)))); have HB := HN; clear HN hc17 hC17 hR17 hb17))
    | (go_at_call 27; (refine (entry_Same.calls 1000 0 5 4 1 0 0 bK bPaid A7 c7 lP 0 0 5 4 1 0 0 bK bPaid (some ⟨g15, 0, none⟩) 2 lP 0 true _ (Kd.C_below HF.out.2.2.2.2.2.1 HB.out) HF.out.2.2.2.2.2.2.2.2.2.1 (legs_C lP (by decide) H15.out) (Nat.le_refl 2) ev_same).mono ?_; rintro e w18 ⟨rfl, hb18⟩; (first | (have HN := Lib.hid (bt HB.out hb18)) | (have HN := Lib.hid (bt HB.out (bta hb18))) | (have HN := Lib.hid (bt HB.out (pre2 hb18)))); have HB := HN; clear HN hb18))
    | (go_at_call 17; (refine (corebankref19_SameLegs.calls 1000 A14 c14 lN (some ⟨w19.heap.size, 0, none⟩) 1 lN true _ (Kd.C_below HF.out.2.2.2.2.2.2.1 (bt HB.out (below_alloc (Below.refl _ _) _))) HF.out.2.2.2.2.2.2.2.2.2.2 (legs_C lN (by decide) (heap_alloc_new w19 _)) (Nat.le_refl 1) ev_legs).mono ?_; rintro e w20 ⟨rfl, hd20⟩; have hb20 := drawn_below' hd20; (first | (have HN := Lib.hid (bt HB.out hb20)) | (have HN := Lib.hid (bt HB.out (bta hb20))) | (have HN := Lib.hid (bt HB.out (pre2 hb20)))); have HB := HN; clear HN hb20 hd20))
    | (go_at_call 15; (refine (entry_Sums.calls (some ⟨g9, 0, none⟩) 2 lX _ _ (legs_C lX (by decide) (blk_below HF.out.2.2.2.1 HB.out)) (Nat.le_refl 2) ev_sums).mono ?_; rintro e w21 ⟨v21, rfl, hR21, hb21⟩; obtain ⟨A21, c21, rfl⟩ := Kd.R_slice hR21; (first | (have HN := Lib.hid (bt HB.out hb21)) | (have HN := Lib.hid (bt HB.out (bta hb21))) | (have HN := Lib.hid (bt HB.out (pre2 hb21)))); have HB := HN; clear HN hR21 hb21)))
  clear hS HS
  go_wp2_with (fail)
  go_ret
  exact ⟨rfl, bt HF.out.2.2.2.2.2.2.2.1 HB.out⟩
end Go.Proofs.YtkfgnjdchnpjeaaDoor
