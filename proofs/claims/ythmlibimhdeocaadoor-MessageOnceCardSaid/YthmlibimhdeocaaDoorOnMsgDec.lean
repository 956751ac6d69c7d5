/- MsgDec: what the law MessageOnce asks of it. -/
import Derived.Test.YthmlibimhdeocaaDoorOnMsgEnc
import Derived.Test.YthmlibimhdeocaaDoorOnWLast
import Derived.Test.YthmlibimhdeocaaDoorOnWTab
import Derived.Test.YthmlibimhdeocaaDoorOnWMore
namespace Go.Proofs.YthmlibimhdeocaaDoor
open Go.RowKit Go.Proofs.YthmlibimhdeocaaDoorW.PrintWords Go.Proofs.YthmlibimhdeocaaDoorW.PrintLast Go.Proofs.YthmlibimhdeocaaDoorW.PrintMore
set_option linter.unusedVariables false
set_option linter.unusedSimpArgs false

/-- The numbers of texts one after the other, or the first error. -/
def decGo : List ByteArray → List Int → Option (Sum Int (List Int))
  | [], ns => some (.inr ns)
  | s :: r, ns => (wire_TakeInt.f s).bind fun t => if t.2 = 0 then decGo r (ns ++ [t.1]) else some (.inl t.2)
def decZ (e : Int) : ByteArray × Int × Int × Int × Int × Int × ByteArray × Int := (⟨#[]⟩, 0, 0, 0, 0, 0, ⟨#[]⟩, e)
def decFin (s t : ByteArray) : Sum Int (List Int) → Option (ByteArray × Int × Int × Int × Int × Int × ByteArray × Int)
  | .inl e => some (decZ e)
  | .inr [a, b, c, d, e] => some (s, a, b, c, d, e, t, 0)
  | .inr _ => none
def decAll : List ByteArray → Option (ByteArray × Int × Int × Int × Int × Int × ByteArray × Int)
  | [s, a, b, c, d, e, t] => (decGo [a, b, c, d, e] []).bind (decFin s t)
  | _ => some (decZ 25)
def message_Decode.f (a0 : ByteArray) : Option (ByteArray × Int × Int × Int × Int × Int × ByteArray × Int) :=
  (wire_Unpack.f a0).bind fun u => if u.2 = 0 then decAll u.1 else some (decZ u.2)
theorem decAll_ne {l : List ByteArray} (h : l.length ≠ 7) : decAll l = some (decZ 25) := by
  unfold decAll
  split
  · simp at h
  · rfl
theorem seven {l : List ByteArray} (h : l.length = 7) : ∃ s a b c d e t, l = [s, a, b, c, d, e, t] := by
  match l, h with
  | [s, a, b, c, d, e, t], _ => exact ⟨s, a, b, c, d, e, t, rfl⟩
/-- Seven cells of one block are written. -/
theorem blk7 {w : World} {g : Nat} {t : TypeId} {a0 a1 a2 a3 a4 a5 a6 b0 b1 b2 b3 b4 b5 b6 : Value} (h : w.heap[g]? = some (.cells #[a0, a1, a2, a3, a4, a5, a6] t (0, 0))) :
    (((((((w.setCell ⟨g, 0, none⟩ b0).setCell ⟨g, 1, none⟩ b1).setCell ⟨g, 2, none⟩ b2).setCell ⟨g, 3, none⟩ b3).setCell ⟨g, 4, none⟩ b4).setCell ⟨g, 5, none⟩ b5).setCell ⟨g, 6, none⟩ b6).heap[g]? = some (.cells #[b0, b1, b2, b3, b4, b5, b6] t (0, 0)) := by
  refine blk_put (cs := #[b0, b1, b2, b3, b4, b5, a6]) ?_ 6 _ rfl
  refine blk_put (cs := #[b0, b1, b2, b3, b4, a5, a6]) ?_ 5 _ rfl
  refine blk_put (cs := #[b0, b1, b2, b3, a4, a5, a6]) ?_ 4 _ rfl
  refine blk_put (cs := #[b0, b1, b2, a3, a4, a5, a6]) ?_ 3 _ rfl
  refine blk_put (cs := #[b0, b1, a2, a3, a4, a5, a6]) ?_ 2 _ rfl
  refine blk_put (cs := #[b0, a1, a2, a3, a4, a5, a6]) ?_ 1 _ rfl
  refine blk_put (cs := #[a0, a1, a2, a3, a4, a5, a6]) ?_ 0 _ rfl
  exact h
theorem below7 {w0 w : World} {g : Nat} {b0 b1 b2 b3 b4 b5 b6 : Value} (h : Below w0.heap.size w0 w) (hg : w0.heap.size ≤ g) :
    Below w0.heap.size w0 (((((((w.setCell ⟨g, 0, none⟩ b0).setCell ⟨g, 1, none⟩ b1).setCell ⟨g, 2, none⟩ b2).setCell ⟨g, 3, none⟩ b3).setCell ⟨g, 4, none⟩ b4).setCell ⟨g, 5, none⟩ b5).setCell ⟨g, 6, none⟩ b6) :=
  below_set (below_set (below_set (below_set (below_set (below_set (below_set h hg) hg) hg) hg) hg) hg) hg
set_option maxRecDepth 100000
def decT : Bool × List (List Nat × List Nat) := (true, [([], []), ([0], [0]), ([1], [1]), ([], []), ([3], [3]), ([], []), ([5], [5]), ([], []), ([7], [7]), ([], []), ([9], [9]), ([], []), ([11], [11]), ([], []), ([13], [13]), ([14], [14]), ([2, 4, 6, 8, 10, 12, 15], [2, 4, 6, 8, 10, 12, 15]), ([16, 0, 1, 2, 3, 4, 5, 6, 7, 8, 9, 10, 11, 12, 13, 14, 15, 16], [16]), ([17, 0, 1, 2, 3, 4, 5, 6, 7, 8, 9, 10, 11, 12, 13, 14, 15, 16, 17], [])])
def decB14 : List Nat := [0, 1, 3, 0, 8, 0, 32, 0, 128, 0, 512, 0, 2048, 0, 8192, 24576, 65535, 131071, 262143]
theorem decTab : rtab .any (opsOf Tryd.f10 14) = decT := by kernel_rfl
theorem decBits : waitsOk decT.2 decB14 = true := by kernel_rfl
theorem far7 {w : World} {g : Nat} {a : Addr} {b0 b1 b2 b3 b4 b5 b6 : Value} (h : a.block ≠ g) :
    (((((((w.setCell ⟨g, 0, none⟩ b0).setCell ⟨g, 1, none⟩ b1).setCell ⟨g, 2, none⟩ b2).setCell ⟨g, 3, none⟩ b3).setCell ⟨g, 4, none⟩ b4).setCell ⟨g, 5, none⟩ b5).setCell ⟨g, 6, none⟩ b6).cell? a = w.cell? a := by
  rw [cell_far h, cell_far h, cell_far h, cell_far h, cell_far h, cell_far h, cell_far h]
set_option maxHeartbeats 4000000 in
set_option maxRecDepth 100000 in
set_option maxHeartbeats 1000000 in
theorem message_Decode.calls (a0 : ByteArray) (r1 : ByteArray) (r2 r3 r4 r5 r6 : Int) (r7 : ByteArray) (r8 : Int) (w : World) (HTab_ : TabW w) (h : message_Decode.f a0 = some (r1, r2, r3, r4, r5, r6, r7, r8)) :
    Calls Tryd.prog 10 #[.string a0] w fun e w' => e = .returned (.tuple #[.agg #[.string r1, .int .i64 r2, .int .i64 r3, .int .i64 r4, .int .i64 r5, .int .i64 r6, .string r7], .int .i64 r8]) ∧ Below w.heap.size w w' := by
  have hu23 := Tryd.underlying23
  unfold message_Decode.f at h
  obtain ⟨⟨l, er⟩, hu, hd⟩ := Option.bind_eq_some_iff.1 h
  simp only at hd
  clear h
  have HT := Lib.hid HTab_
  have HU := Lib.hid hu
  clear HTab_ hu
  by_cases he : er = 0
  case neg =>
    rw [if_neg he] at hd
    have hd2 := Option.some.inj hd
    unfold decZ at hd2
    simp only [Prod.mk.injEq] at hd2
    obtain ⟨rfl, rfl, rfl, rfl, rfl, rfl, rfl, rfl⟩ := hd2
    have heb : (er != 0) = true := bne_iff_ne.2 he
    clear hd
    go_enter Tryd.func10, Tryd.ntmps10
    go_wp2_with (go_at_call 26; refine (wire_Unpack.calls a0 l er _ HU.out).mono ?_; rintro e w' ⟨v0, rfl, hR, hb⟩; have HR := Lib.hid hR; have HB := Lib.hid hb; have hblk : w'.heap[w.heap.size]? = some (.cells #[.string (⟨#[]⟩ : ByteArray), .int .i64 0, .int .i64 0, .int .i64 0, .int .i64 0, .int .i64 0, .string (⟨#[]⟩ : ByteArray)] 23 (0, 0)) := (hb.block _ (by rw [World.size_alloc]; omega)).trans (heap_alloc_new w _); have hcz0 : w'.cell? ⟨w.heap.size, 0, none⟩ = some (.string (⟨#[]⟩ : ByteArray)) := (blk_cell hblk 0).trans rfl; have hcz1 : w'.cell? ⟨w.heap.size, 1, none⟩ = some (.int .i64 0) := (blk_cell hblk 1).trans rfl; have hcz2 : w'.cell? ⟨w.heap.size, 2, none⟩ = some (.int .i64 0) := (blk_cell hblk 2).trans rfl; have hcz3 : w'.cell? ⟨w.heap.size, 3, none⟩ = some (.int .i64 0) := (blk_cell hblk 3).trans rfl; have hcz4 : w'.cell? ⟨w.heap.size, 4, none⟩ = some (.int .i64 0) := (blk_cell hblk 4).trans rfl; have hcz5 : w'.cell? ⟨w.heap.size, 5, none⟩ = some (.int .i64 0) := (blk_cell hblk 5).trans rfl; have hcz6 : w'.cell? ⟨w.heap.size, 6, none⟩ = some (.string (⟨#[]⟩ : ByteArray)) := (blk_cell hblk 6).trans rfl; have hfz0 := blk_frozen hblk 0; have hfz1 := blk_frozen hblk 1; have hfz2 := blk_frozen hblk 2; have hfz3 := blk_frozen hblk 3; have hfz4 := blk_frozen hblk 4; have hfz5 := blk_frozen hblk 5; have hfz6 := blk_frozen hblk 6; have HK := Lib.hid hblk; clear hR hb hblk)
    refine bodyPost_ret (results_ct rfl _ _ w.heap.size 23 #[.string (⟨#[]⟩ : ByteArray), .int .i64 0, .int .i64 0, .int .i64 0, .int .i64 0, .int .i64 0, .string (⟨#[]⟩ : ByteArray)] (0, 0) _ rfl (blk7 HK.out) Tryd.underlying23 rfl (by kernel_rfl)) rfl ?_
    exact ⟨rfl, below7 (below_then (below_alloc (Below.refl _ _) _) (by rw [World.size_alloc]; omega) HB.out) (Nat.le_refl _)⟩
  case pos =>
    subst he
    rw [if_pos rfl] at hd
    by_cases h7 : l.length = 7
    case neg =>
      rw [decAll_ne h7] at hd
      have hd2 := Option.some.inj hd
      unfold decZ at hd2
      simp only [Prod.mk.injEq] at hd2
      obtain ⟨rfl, rfl, rfl, rfl, rfl, rfl, rfl, rfl⟩ := hd2
      have h7b : ((l.length : Int) != 7) = true := bne_iff_ne.2 (by omega)
      clear hd
      go_enter Tryd.func10, Tryd.ntmps10
      go_wp2_with (go_at_call 26; refine (wire_Unpack.calls a0 l 0 _ HU.out).mono ?_; rintro e w' ⟨v0, rfl, hR, hb⟩; obtain ⟨Ax, cx, rfl⟩ := Kd.R_slice hR; have HR := Lib.hid hR; have HB := Lib.hid hb; have hblk : w'.heap[w.heap.size]? = some (.cells #[.string (⟨#[]⟩ : ByteArray), .int .i64 0, .int .i64 0, .int .i64 0, .int .i64 0, .int .i64 0, .string (⟨#[]⟩ : ByteArray)] 23 (0, 0)) := (hb.block _ (by rw [World.size_alloc]; omega)).trans (heap_alloc_new w _); have hcz0 : w'.cell? ⟨w.heap.size, 0, none⟩ = some (.string (⟨#[]⟩ : ByteArray)) := (blk_cell hblk 0).trans rfl; have hcz1 : w'.cell? ⟨w.heap.size, 1, none⟩ = some (.int .i64 0) := (blk_cell hblk 1).trans rfl; have hcz2 : w'.cell? ⟨w.heap.size, 2, none⟩ = some (.int .i64 0) := (blk_cell hblk 2).trans rfl; have hcz3 : w'.cell? ⟨w.heap.size, 3, none⟩ = some (.int .i64 0) := (blk_cell hblk 3).trans rfl; have hcz4 : w'.cell? ⟨w.heap.size, 4, none⟩ = some (.int .i64 0) := (blk_cell hblk 4).trans rfl; have hcz5 : w'.cell? ⟨w.heap.size, 5, none⟩ = some (.int .i64 0) := (blk_cell hblk 5).trans rfl; have hcz6 : w'.cell? ⟨w.heap.size, 6, none⟩ = some (.string (⟨#[]⟩ : ByteArray)) := (blk_cell hblk 6).trans rfl; have hfz0 := blk_frozen hblk 0; have hfz1 := blk_frozen hblk 1; have hfz2 := blk_frozen hblk 2; have hfz3 := blk_frozen hblk 3; have hfz4 := blk_frozen hblk 4; have hfz5 := blk_frozen hblk 5; have hfz6 := blk_frozen hblk 6; have HK := Lib.hid hblk; clear hR hb hblk)
      refine bodyPost_ret (results_ct rfl _ _ w.heap.size 23 #[.string (⟨#[]⟩ : ByteArray), .int .i64 0, .int .i64 0, .int .i64 0, .int .i64 0, .int .i64 0, .string (⟨#[]⟩ : ByteArray)] (0, 0) _ rfl (blk7 HK.out) Tryd.underlying23 rfl (by kernel_rfl)) rfl ?_
      exact ⟨rfl, below7 (below_then (below_alloc (Below.refl _ _) _) (by rw [World.size_alloc]; omega) HB.out) (Nat.le_refl _)⟩
    case pos =>
      obtain ⟨s, a, b, c, d, e, t, rfl⟩ := seven h7
      obtain ⟨x, hx, hf⟩ := Option.bind_eq_some_iff.1 (show (decGo [a, b, c, d, e] []).bind (decFin s t) = some (r1, r2, r3, r4, r5, r6, r7, r8) from hd)
      have HX := Lib.hid hx
      have HF := Lib.hid hf
      clear hd hx hf h7
      go_enter Tryd.func10, Tryd.ntmps10
      go_wp2_with (go_at_call 26; refine (wire_Unpack.calls a0 [s, a, b, c, d, e, t] 0 _ HU.out).mono ?_; rintro e0 W1 ⟨v0, rfl, hR, hb⟩; obtain ⟨Ax, cx, rfl⟩ := Kd.R_slice hR; have HR := Lib.hid hR; have HB := Lib.hid hb; have HK := Lib.hid (show W1.heap[w.heap.size]? = some (.cells #[.string (⟨#[]⟩ : ByteArray), .int .i64 0, .int .i64 0, .int .i64 0, .int .i64 0, .int .i64 0, .string (⟨#[]⟩ : ByteArray)] 23 (0, 0)) from (hb.block _ (by rw [World.size_alloc]; omega)).trans (heap_alloc_new w _)); clear hR hb)
      go_loopw [21] (fun v21 wr => ∃ (i : Nat) (cs : Array Value) (ns : List Int), v21 = .int .i64 i ∧ Hid (i ≤ 5 ∧ ns.length = i ∧ decGo ([a, b, c, d, e].drop i) ns = some x ∧ cs.size = 5 ∧ (∀ j (hj : j < ns.length), cs[j]? = some (.int .i64 ns[j])) ∧ wr.heap[W1.heap.size]? = some (.cells cs 48 (0, 0)) ∧ Below W1.heap.size W1 wr)) (fun v21 _ => 5 - (intOf v21).toNat)
      case atStart =>
        exact ⟨0, _, [], rfl, Lib.hid ⟨by omega, rfl, HX.out, rfl, fun j hj => absurd hj (by simp), heap_alloc_new _ _, below_alloc (Below.refl _ _) _⟩⟩
      case round =>
        obtain ⟨i, cs, ns, rfl, hh⟩ := hrel
        obtain ⟨hi, hn, hg, hcs, hcells, hblk, hB⟩ := hh.out
        clear hh
        by_cases hlt : i < 5
        · have key : ∃ y, [a, b, c, d, e].drop i = y :: [a, b, c, d, e].drop (i + 1) ∧ rdOf ByteArray.empty [s, a, b, c, d, e, t] ((i : Int) + 1) = y := by
            rcases i with _ | _ | _ | _ | _ | i
            · exact ⟨_, rfl, rfl⟩
            · exact ⟨_, rfl, rfl⟩
            · exact ⟨_, rfl, rfl⟩
            · exact ⟨_, rfl, rfl⟩
            · exact ⟨_, rfl, rfl⟩
            · omega
          obtain ⟨y, hy, hry⟩ := key
          rw [hy] at hg
          obtain ⟨⟨n, en⟩, htk, hg2⟩ := Option.bind_eq_some_iff.1 (show (wire_TakeInt.f y).bind (fun t => if t.2 = 0 then decGo ([a, b, c, d, e].drop (i + 1)) (ns ++ [t.1]) else some (.inl t.2)) = some x from hg)
          simp only at hg2
          obtain ⟨ad, ead, hcell0⟩ := Kd.at_string (Kd.R_reads' HR.out).2.2 ((i : Int) + 1) (by omega) (by simp; omega)
          rw [hry] at hcell0
          subst ead
          have hcell := (hB.cell (World.block_lt_of_cell? _ _ hcell0)).trans hcell0
          rw [show ((i : Int) + 1).toNat = i + 1 by omega] at hcell
          replace hcell : wr.cell? ⟨ad.block, ad.off + (i + 1), none⟩ = some (.string y) := hcell
          have hlt2 : (i : Int) < 5 := by omega
          have hk0 : wr.heap[w.heap.size]? = some (.cells #[.string (⟨#[]⟩ : ByteArray), .int .i64 0, .int .i64 0, .int .i64 0, .int .i64 0, .int .i64 0, .string (⟨#[]⟩ : ByteArray)] 23 (0, 0)) := (hB.block _ (blk_lt HK.out)).trans HK.out
          have hne : w.heap.size ≠ W1.heap.size := Nat.ne_of_lt (blk_lt HK.out)
          obtain ⟨old, hold⟩ : ∃ old, cs[i]? = some old := ⟨_, Array.getElem?_eq_getElem (by omega)⟩
          have hbw : Below w.heap.size w wr := below_then (below_then (below_alloc (Below.refl _ _) _) (by rw [World.size_alloc]; omega) HB.out) (by have := HB.out.size; rw [World.size_alloc] at this; omega) hB
          have HQ := Lib.hid (And.intro hi (And.intro hn (And.intro htk (And.intro hcs (And.intro hcells (And.intro hblk (And.intro hB (And.intro hk0 (And.intro hne (And.intro hold hbw))))))))))
          clear hi hn hg htk hcs hcells hblk hB hk0 hne hold hbw hy hry hcell0 hlt
          by_cases hen : en = 0
          · subst hen
            rw [if_pos rfl] at hg2
            have HG := Lib.hid hg2
            clear hg2
            go_wp2_with (go_at_call 27; refine (wire_TakeInt.calls y n 0 _ (HT.out.below HQ.out.2.2.2.2.2.2.2.2.2.2) HQ.out.2.2.1).mono ?_; rintro e0 w' ⟨rfl, hb⟩; have HB1 := Lib.hid hb; have hb1 := (hb.block _ (blk_lt HQ.out.2.2.2.2.2.1)).trans HQ.out.2.2.2.2.2.1; have hc1 : w'.cell? ⟨W1.heap.size, i, none⟩ = some old := (blk_cell hb1 i).trans HQ.out.2.2.2.2.2.2.2.2.2.1; have hf1 := blk_frozen hb1 i; have HB2 := Lib.hid hb1; clear hb hb1)
            obtain ⟨hi, hn, htk, hcs, hcells, hblk, hB, hk0, hne, hold, hbw⟩ := HQ.out
            refine ⟨⟨i + 1, cs.setIfInBounds i (.int .i64 n), ns ++ [n], ?_, Lib.hid ⟨by omega, by simp [hn], HG.out, by simp [hcs], ?_, blk_set HB2.out i _, ?_⟩⟩, ?_⟩
            · rw [show ((i : Int) + 1) = ((i + 1 : Nat) : Int) by omega]
            · intro j hj
              rw [Array.getElem?_setIfInBounds]
              by_cases hji : i = j
              · subst hji
                rw [if_pos rfl, if_pos (by omega)]
                congr 2
                rw [List.getElem_append_right (by omega)]
                simp
              · have hj2 : j < ns.length := by simp at hj; omega
                rw [if_neg hji, hcells j hj2, List.getElem_append_left hj2]
            · exact below_set (below_then hB hB.size HB1.out) (Nat.le_refl _)
            · simp only [intOf]
              omega
          · rw [if_neg hen] at hg2
            obtain rfl := (Option.some.inj hg2)
            have hd2 := Option.some.inj (show some (decZ en) = some (r1, r2, r3, r4, r5, r6, r7, r8) from HF.out)
            unfold decZ at hd2
            simp only [Prod.mk.injEq] at hd2
            obtain ⟨rfl, rfl, rfl, rfl, rfl, rfl, rfl, rfl⟩ := hd2
            have henb : (en != 0) = true := bne_iff_ne.2 hen
            go_wp2_with (go_at_call 27; refine (wire_TakeInt.calls y n en _ (HT.out.below HQ.out.2.2.2.2.2.2.2.2.2.2) HQ.out.2.2.1).mono ?_; rintro e0 w' ⟨rfl, hb⟩; have HB1 := Lib.hid hb; have hb1 := (hb.block _ (blk_lt HQ.out.2.2.2.2.2.1)).trans HQ.out.2.2.2.2.2.1; have hc1 : w'.cell? ⟨W1.heap.size, i, none⟩ = some old := (blk_cell hb1 i).trans HQ.out.2.2.2.2.2.2.2.2.2.1; have hf1 := blk_frozen hb1 i; have hblk : (w'.setCell ⟨W1.heap.size, i, none⟩ (.int .i64 n)).heap[w.heap.size]? = some (.cells #[.string (⟨#[]⟩ : ByteArray), .int .i64 0, .int .i64 0, .int .i64 0, .int .i64 0, .int .i64 0, .string (⟨#[]⟩ : ByteArray)] 23 (0, 0)) := blk_far ((hb.block _ (blk_lt HQ.out.2.2.2.2.2.2.2.1)).trans HQ.out.2.2.2.2.2.2.2.1) HQ.out.2.2.2.2.2.2.2.2.1 _; have hcz0 : (w'.setCell ⟨W1.heap.size, i, none⟩ (.int .i64 n)).cell? ⟨w.heap.size, 0, none⟩ = some (.string (⟨#[]⟩ : ByteArray)) := (blk_cell hblk 0).trans rfl; have hcz1 : (w'.setCell ⟨W1.heap.size, i, none⟩ (.int .i64 n)).cell? ⟨w.heap.size, 1, none⟩ = some (.int .i64 0) := (blk_cell hblk 1).trans rfl; have hcz2 : (w'.setCell ⟨W1.heap.size, i, none⟩ (.int .i64 n)).cell? ⟨w.heap.size, 2, none⟩ = some (.int .i64 0) := (blk_cell hblk 2).trans rfl; have hcz3 : (w'.setCell ⟨W1.heap.size, i, none⟩ (.int .i64 n)).cell? ⟨w.heap.size, 3, none⟩ = some (.int .i64 0) := (blk_cell hblk 3).trans rfl; have hcz4 : (w'.setCell ⟨W1.heap.size, i, none⟩ (.int .i64 n)).cell? ⟨w.heap.size, 4, none⟩ = some (.int .i64 0) := (blk_cell hblk 4).trans rfl; have hcz5 : (w'.setCell ⟨W1.heap.size, i, none⟩ (.int .i64 n)).cell? ⟨w.heap.size, 5, none⟩ = some (.int .i64 0) := (blk_cell hblk 5).trans rfl; have hcz6 : (w'.setCell ⟨W1.heap.size, i, none⟩ (.int .i64 n)).cell? ⟨w.heap.size, 6, none⟩ = some (.string (⟨#[]⟩ : ByteArray)) := (blk_cell hblk 6).trans rfl; have hfz0 := blk_frozen hblk 0; have hfz1 := blk_frozen hblk 1; have hfz2 := blk_frozen hblk 2; have hfz3 := blk_frozen hblk 3; have hfz4 := blk_frozen hblk 4; have hfz5 := blk_frozen hblk 5; have hfz6 := blk_frozen hblk 6; have HK2 := Lib.hid hblk; clear hb hb1 hblk)
            obtain ⟨hi, hn, htk, hcs, hcells, hblk, hB, hk0, hne, hold, hbw⟩ := HQ.out
            refine bodyPost_ret (results_ct rfl _ _ w.heap.size 23 #[.string (⟨#[]⟩ : ByteArray), .int .i64 0, .int .i64 0, .int .i64 0, .int .i64 0, .int .i64 0, .string (⟨#[]⟩ : ByteArray)] (0, 0) _ rfl (blk7 HK2.out) Tryd.underlying23 rfl (by kernel_rfl)) rfl ?_
            exact ⟨rfl, below7 (below_set (below_then hbw hbw.size HB1.out) (Nat.le_of_lt (blk_lt HK.out) |> fun h => Nat.le_trans (by have := HB.out.size; rw [World.size_alloc] at this; omega) (Nat.le_refl W1.heap.size))) (Nat.le_refl _)⟩
        · obtain rfl : i = 5 := by omega
          have hx5 := Option.some.inj (show some (Sum.inr ns) = some x from hg)
          subst hx5
          obtain ⟨n0, n1, n2, n3, n4, rfl⟩ : ∃ n0 n1 n2 n3 n4, ns = [n0, n1, n2, n3, n4] := by
            match ns, hn with
            | [n0, n1, n2, n3, n4], _ => exact ⟨n0, n1, n2, n3, n4, rfl⟩
          have hd2 := Option.some.inj (show some (s, n0, n1, n2, n3, n4, t, (0 : Int)) = some (r1, r2, r3, r4, r5, r6, r7, r8) from HF.out)
          simp only [Prod.mk.injEq] at hd2
          obtain ⟨rfl, rfl, rfl, rfl, rfl, rfl, rfl, rfl⟩ := hd2
          have hB' := below_drew1 hB
          have hblk' := blk_drew hblk
          have hk0 : wr.drew.heap[w.heap.size]? = some (.cells #[.string (⟨#[]⟩ : ByteArray), .int .i64 0, .int .i64 0, .int .i64 0, .int .i64 0, .int .i64 0, .string (⟨#[]⟩ : ByteArray)] 23 (0, 0)) := (hB'.block _ (blk_lt HK.out)).trans HK.out
          have hbw : Below w.heap.size w wr.drew := below_then (below_then (below_alloc (Below.refl _ _) _) (by rw [World.size_alloc]; omega) HB.out) (by have := HB.out.size; rw [World.size_alloc] at this; omega) hB'
          obtain ⟨ad, ead, hs0⟩ := Kd.at_string (Kd.R_reads' HR.out).2.2 0 (by omega) (by simp)
          obtain ⟨ad', ead', hs6⟩ := Kd.at_string (Kd.R_reads' HR.out).2.2 6 (by omega) (by simp)
          subst ead
          obtain rfl := Option.some.inj ead'
          have hnA : ad.block ≠ w.heap.size := Kd.own_blk (Kd.R_ne HR.out HK.out (by decide))
          have hnB : W1.heap.size ≠ w.heap.size := fun e => by have := blk_lt HK.out; omega
          have hs0' : wr.drew.cell? ad = some (.string s) := (hB'.cell (World.block_lt_of_cell? _ _ hs0)).trans hs0
          have hs6' : wr.drew.cell? ⟨ad.block, ad.off + 6, none⟩ = some (.string t) := (hB'.cell (World.block_lt_of_cell? _ _ hs6)).trans hs6
          have ha0 : wr.drew.cell? ⟨W1.heap.size, 0, none⟩ = some (.int .i64 n0) := (blk_cell hblk' 0).trans (hcells 0 (by simp))
          have ha1 : wr.drew.cell? ⟨W1.heap.size, 1, none⟩ = some (.int .i64 n1) := (blk_cell hblk' 1).trans (hcells 1 (by simp))
          have ha2 : wr.drew.cell? ⟨W1.heap.size, 2, none⟩ = some (.int .i64 n2) := (blk_cell hblk' 2).trans (hcells 2 (by simp))
          have ha3 : wr.drew.cell? ⟨W1.heap.size, 3, none⟩ = some (.int .i64 n3) := (blk_cell hblk' 3).trans (hcells 3 (by simp))
          have ha4 : wr.drew.cell? ⟨W1.heap.size, 4, none⟩ = some (.int .i64 n4) := (blk_cell hblk' 4).trans (hcells 4 (by simp))
          have HZ := Lib.hid (And.intro hk0 hbw)
          clear hi hn hg hcs hcells hblk hblk' hB hB' hk0 hbw hs0 hs6 ead' hlt
          go_wp2
          refine start_ (n := 19) (S := fun w' => w'.cell? ad = some (.string s) ∧ w'.cell? ⟨W1.heap.size, 0, none⟩ = some (.int .i64 n0) ∧ w'.cell? ⟨W1.heap.size, 1, none⟩ = some (.int .i64 n1) ∧ w'.cell? ⟨W1.heap.size, 2, none⟩ = some (.int .i64 n2) ∧ w'.cell? ⟨W1.heap.size, 3, none⟩ = some (.int .i64 n3) ∧ w'.cell? ⟨W1.heap.size, 4, none⟩ = some (.int .i64 n4) ∧ w'.cell? ⟨ad.block, ad.off + 6, none⟩ = some (.string t)) (ds := []) #[false, false, false, false, false, false, false, false, false, false, false, false, false, false, false, false, false, false, false] (by kernel_rfl) rfl rfl ⟨hs0', ha0, ha1, ha2, ha3, ha4, hs6'⟩ (fun hHeld => ?_); refine with_tabW decTab decBits (fun HT_ HW_ => ?_)
          generalize wr.drew = w23 at hs0' ha0 ha1 ha2 ha3 ha4 hs6' HZ hHeld ⊢
          refine pure_ (i := 0) (N := some 40) (v := ?_) (a' := ?_) #[true, false, false, false, false, false, false, false, false, false, false, false, false, false, false, false, false, false, false] rfl rfl (any_of HT_.out (by kernel_rfl)) (fun _ _ _ h => h) (Or.inl ⟨by rfl, ?_⟩) ?_ ?_
          rotate_left
          · intro w'
            go_simp
            with_reducible rfl
          rotate_left
          · simp only [Act.put, List.setIfInBounds_toArray, List.set_cons_zero, List.set_cons_succ, i64_w, i32_w]
            rfl
          refine pure_ (i := 1) (N := some 41) (v := ?_) (a' := ?_) #[true, true, false, false, false, false, false, false, false, false, false, false, false, false, false, false, false, false, false] rfl rfl (any_of HT_.out (by kernel_rfl)) (fun _ _ _ h => h) (Or.inl ⟨by rfl, ?_⟩) ?_ ?_
          rotate_left
          · intro w'
            go_simp
            with_reducible rfl
          rotate_left
          · simp only [Act.put, List.setIfInBounds_toArray, List.set_cons_zero, List.set_cons_succ, i64_w, i32_w]
            rfl
          refine pure_ (i := 3) (N := some 43) (v := ?_) (a' := ?_) #[true, true, false, true, false, false, false, false, false, false, false, false, false, false, false, false, false, false, false] rfl rfl (any_of HT_.out (by kernel_rfl)) (fun _ _ _ h => h) (Or.inl ⟨by rfl, ?_⟩) ?_ ?_
          rotate_left
          · intro w'
            go_simp
            with_reducible rfl
          rotate_left
          · simp only [Act.put, List.setIfInBounds_toArray, List.set_cons_zero, List.set_cons_succ, i64_w, i32_w]
            rfl
          refine pure_ (i := 5) (N := some 45) (v := ?_) (a' := ?_) #[true, true, false, true, false, true, false, false, false, false, false, false, false, false, false, false, false, false, false] rfl rfl (any_of HT_.out (by kernel_rfl)) (fun _ _ _ h => h) (Or.inl ⟨by rfl, ?_⟩) ?_ ?_
          rotate_left
          · intro w'
            go_simp
            with_reducible rfl
          rotate_left
          · simp only [Act.put, List.setIfInBounds_toArray, List.set_cons_zero, List.set_cons_succ, i64_w, i32_w]
            rfl
          refine pure_ (i := 7) (N := some 47) (v := ?_) (a' := ?_) #[true, true, false, true, false, true, false, true, false, false, false, false, false, false, false, false, false, false, false] rfl rfl (any_of HT_.out (by kernel_rfl)) (fun _ _ _ h => h) (Or.inl ⟨by rfl, ?_⟩) ?_ ?_
          rotate_left
          · intro w'
            go_simp
            with_reducible rfl
          rotate_left
          · simp only [Act.put, List.setIfInBounds_toArray, List.set_cons_zero, List.set_cons_succ, i64_w, i32_w]
            rfl
          refine pure_ (i := 9) (N := some 49) (v := ?_) (a' := ?_) #[true, true, false, true, false, true, false, true, false, true, false, false, false, false, false, false, false, false, false] rfl rfl (any_of HT_.out (by kernel_rfl)) (fun _ _ _ h => h) (Or.inl ⟨by rfl, ?_⟩) ?_ ?_
          rotate_left
          · intro w'
            go_simp
            with_reducible rfl
          rotate_left
          · simp only [Act.put, List.setIfInBounds_toArray, List.set_cons_zero, List.set_cons_succ, i64_w, i32_w]
            rfl
          refine pure_ (i := 11) (N := some 51) (v := ?_) (a' := ?_) #[true, true, false, true, false, true, false, true, false, true, false, true, false, false, false, false, false, false, false] rfl rfl (any_of HT_.out (by kernel_rfl)) (fun _ _ _ h => h) (Or.inl ⟨by rfl, ?_⟩) ?_ ?_
          rotate_left
          · intro w'
            go_simp
            with_reducible rfl
          rotate_left
          · simp only [Act.put, List.setIfInBounds_toArray, List.set_cons_zero, List.set_cons_succ, i64_w, i32_w]
            rfl
          refine pure_ (i := 13) (N := some 53) (v := ?_) (a' := ?_) #[true, true, false, true, false, true, false, true, false, true, false, true, false, true, false, false, false, false, false] rfl rfl (any_of HT_.out (by kernel_rfl)) (fun _ _ _ h => h) (Or.inl ⟨by rfl, ?_⟩) ?_ ?_
          rotate_left
          · intro w'
            go_simp
            with_reducible rfl
          rotate_left
          · simp only [Act.put, List.setIfInBounds_toArray, List.set_cons_zero, List.set_cons_succ, i64_w, i32_w]
            rfl
          refine pure_ (i := 14) (N := some 54) (v := ?_) (a' := ?_) #[true, true, false, true, false, true, false, true, false, true, false, true, false, true, true, false, false, false, false] rfl rfl (any_of HT_.out (by kernel_rfl)) (fun _ _ _ h => h) (Or.inl ⟨by rfl, ?_⟩) ?_ ?_
          rotate_left
          · intro w'
            go_simp
            with_reducible rfl
          rotate_left
          · simp only [Act.put, List.setIfInBounds_toArray, List.set_cons_zero, List.set_cons_succ, i64_w, i32_w]
            rfl
          refine take_ (i := 2) (N := some 42) (v := ?_) (a' := ?_) #[true, true, true, true, false, true, false, true, false, true, false, true, false, true, true, false, false, false, false] rfl rfl (take_ofW HT_.out HW_.out (by kernel_rfl)) (fun _ _ _ h => h) (Or.inl ⟨by rfl, ?_⟩) hHeld ?_ ?_
          rotate_left
          · rintro w' ⟨s0, s1, s2, s3, s4, s5, s6⟩
            go_simp
            with_reducible rfl
          rotate_left
          · simp only [Act.put, List.setIfInBounds_toArray, List.set_cons_zero, List.set_cons_succ, i64_w, i32_w]
            rfl
          refine take_ (i := 4) (N := some 44) (v := ?_) (a' := ?_) #[true, true, true, true, true, true, false, true, false, true, false, true, false, true, true, false, false, false, false] rfl rfl (take_ofW HT_.out HW_.out (by kernel_rfl)) (fun _ _ _ h => h) (Or.inl ⟨by rfl, ?_⟩) hHeld ?_ ?_
          rotate_left
          · rintro w' ⟨s0, s1, s2, s3, s4, s5, s6⟩
            go_simp
            with_reducible rfl
          rotate_left
          · simp only [Act.put, List.setIfInBounds_toArray, List.set_cons_zero, List.set_cons_succ, i64_w, i32_w]
            rfl
          refine take_ (i := 6) (N := some 46) (v := ?_) (a' := ?_) #[true, true, true, true, true, true, true, true, false, true, false, true, false, true, true, false, false, false, false] rfl rfl (take_ofW HT_.out HW_.out (by kernel_rfl)) (fun _ _ _ h => h) (Or.inl ⟨by rfl, ?_⟩) hHeld ?_ ?_
          rotate_left
          · rintro w' ⟨s0, s1, s2, s3, s4, s5, s6⟩
            go_simp
            with_reducible rfl
          rotate_left
          · simp only [Act.put, List.setIfInBounds_toArray, List.set_cons_zero, List.set_cons_succ, i64_w, i32_w]
            rfl
          refine take_ (i := 8) (N := some 48) (v := ?_) (a' := ?_) #[true, true, true, true, true, true, true, true, true, true, false, true, false, true, true, false, false, false, false] rfl rfl (take_ofW HT_.out HW_.out (by kernel_rfl)) (fun _ _ _ h => h) (Or.inl ⟨by rfl, ?_⟩) hHeld ?_ ?_
          rotate_left
          · rintro w' ⟨s0, s1, s2, s3, s4, s5, s6⟩
            go_simp
            with_reducible rfl
          rotate_left
          · simp only [Act.put, List.setIfInBounds_toArray, List.set_cons_zero, List.set_cons_succ, i64_w, i32_w]
            rfl
          refine take_ (i := 10) (N := some 50) (v := ?_) (a' := ?_) #[true, true, true, true, true, true, true, true, true, true, true, true, false, true, true, false, false, false, false] rfl rfl (take_ofW HT_.out HW_.out (by kernel_rfl)) (fun _ _ _ h => h) (Or.inl ⟨by rfl, ?_⟩) hHeld ?_ ?_
          rotate_left
          · rintro w' ⟨s0, s1, s2, s3, s4, s5, s6⟩
            go_simp
            with_reducible rfl
          rotate_left
          · simp only [Act.put, List.setIfInBounds_toArray, List.set_cons_zero, List.set_cons_succ, i64_w, i32_w]
            rfl
          refine take_ (i := 12) (N := some 52) (v := ?_) (a' := ?_) #[true, true, true, true, true, true, true, true, true, true, true, true, true, true, true, false, false, false, false] rfl rfl (take_ofW HT_.out HW_.out (by kernel_rfl)) (fun _ _ _ h => h) (Or.inl ⟨by rfl, ?_⟩) hHeld ?_ ?_
          rotate_left
          · rintro w' ⟨s0, s1, s2, s3, s4, s5, s6⟩
            go_simp
            with_reducible rfl
          rotate_left
          · simp only [Act.put, List.setIfInBounds_toArray, List.set_cons_zero, List.set_cons_succ, i64_w, i32_w]
            rfl
          refine take_ (i := 15) (N := some 55) (v := ?_) (a' := ?_) #[true, true, true, true, true, true, true, true, true, true, true, true, true, true, true, true, false, false, false] rfl rfl (take_ofW HT_.out HW_.out (by kernel_rfl)) (fun _ _ _ h => h) (Or.inl ⟨by rfl, ?_⟩) hHeld ?_ ?_
          rotate_left
          · rintro w' ⟨s0, s1, s2, s3, s4, s5, s6⟩
            go_simp
            with_reducible rfl
          rotate_left
          · simp only [Act.put, List.setIfInBounds_toArray, List.set_cons_zero, List.set_cons_succ, i64_w, i32_w]
            rfl
          refine pure_ (i := 16) (N := some 56) (v := ?_) (a' := ?_) #[true, true, true, true, true, true, true, true, true, true, true, true, true, true, true, true, true, false, false] rfl rfl (any_of HT_.out (by kernel_rfl)) (fun _ _ _ h => h) (Or.inl ⟨by rfl, ?_⟩) ?_ ?_
          rotate_left
          · intro w'
            go_simp
            with_reducible rfl
          rotate_left
          · simp only [Act.put, List.setIfInBounds_toArray, List.set_cons_zero, List.set_cons_succ, i64_w, i32_w]
            rfl
          refine one_ (i := 17) (N := none) #[true, true, true, true, true, true, true, true, true, true, true, true, true, true, true, true, true, true, false] rfl rfl (one_of HT_.out (by kernel_rfl)) (by decide) (fun K hK => ?_)
          have hz0 : w23.cell? ⟨w.heap.size, 0, none⟩ = some (.string (⟨#[]⟩ : ByteArray)) := (blk_cell HZ.out.1 0).trans rfl
          have hy0 := blk_frozen HZ.out.1 0
          have hz1 : w23.cell? ⟨w.heap.size, 1, none⟩ = some (.int .i64 0) := (blk_cell HZ.out.1 1).trans rfl
          have hy1 := blk_frozen HZ.out.1 1
          have hz2 : w23.cell? ⟨w.heap.size, 2, none⟩ = some (.int .i64 0) := (blk_cell HZ.out.1 2).trans rfl
          have hy2 := blk_frozen HZ.out.1 2
          have hz3 : w23.cell? ⟨w.heap.size, 3, none⟩ = some (.int .i64 0) := (blk_cell HZ.out.1 3).trans rfl
          have hy3 := blk_frozen HZ.out.1 3
          have hz4 : w23.cell? ⟨w.heap.size, 4, none⟩ = some (.int .i64 0) := (blk_cell HZ.out.1 4).trans rfl
          have hy4 := blk_frozen HZ.out.1 4
          have hz5 : w23.cell? ⟨w.heap.size, 5, none⟩ = some (.int .i64 0) := (blk_cell HZ.out.1 5).trans rfl
          have hy5 := blk_frozen HZ.out.1 5
          have hz6 : w23.cell? ⟨w.heap.size, 6, none⟩ = some (.string (⟨#[]⟩ : ByteArray)) := (blk_cell HZ.out.1 6).trans rfl
          have hy6 := blk_frozen HZ.out.1 6
          refine skip_ (w1 := ?_) (by rfl) rfl ?_ ?_
          rotate_left
          · go_simp
            rfl
          refine hK.out _ _ ?hs (fun hHeld => ?_)
          case hs =>
            refine ⟨?_, ?_, ?_, ?_, ?_, ?_, ?_⟩
            · rw [far7 (a := ad) hnA]
              exact hHeld.1
            · rw [far7 (a := ⟨W1.heap.size, 0, none⟩) hnB]
              exact hHeld.2.1
            · rw [far7 (a := ⟨W1.heap.size, 1, none⟩) hnB]
              exact hHeld.2.2.1
            · rw [far7 (a := ⟨W1.heap.size, 2, none⟩) hnB]
              exact hHeld.2.2.2.1
            · rw [far7 (a := ⟨W1.heap.size, 3, none⟩) hnB]
              exact hHeld.2.2.2.2.1
            · rw [far7 (a := ⟨W1.heap.size, 4, none⟩) hnB]
              exact hHeld.2.2.2.2.2.1
            · rw [far7 (a := ⟨ad.block, ad.off + 6, none⟩) hnA]
              exact hHeld.2.2.2.2.2.2
          clear hK K
          refine pure_ (i := 18) (N := some 3) (v := ?_) (a' := ?_) #[true, true, true, true, true, true, true, true, true, true, true, true, true, true, true, true, true, true, true] rfl rfl (any_of HT_.out (by kernel_rfl)) (fun _ _ _ h => h) (Or.inl ⟨by rfl, ?_⟩) ?_ ?_
          rotate_left
          · intro w'
            go_simp
            with_reducible rfl
          rotate_left
          · simp only [Act.put, List.setIfInBounds_toArray, List.set_cons_zero, List.set_cons_succ, i64_w, i32_w]
            rfl
          refine done_ (done_of HT_.out (by kernel_rfl)) ?_
          try go_wp2
          refine bodyPost_ret (results_ct rfl _ _ w.heap.size 23 #[.string s, .int .i64 n0, .int .i64 n1, .int .i64 n2, .int .i64 n3, .int .i64 n4, .string t] (0, 0) _ rfl (blk7 HZ.out.1) Tryd.underlying23 rfl (by kernel_rfl)) rfl ?_
          exact ⟨rfl, below7 HZ.out.2 (Nat.le_refl _)⟩
end Go.Proofs.YthmlibimhdeocaaDoor

