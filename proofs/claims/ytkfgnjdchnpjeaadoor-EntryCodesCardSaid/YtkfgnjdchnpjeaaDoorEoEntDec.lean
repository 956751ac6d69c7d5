/- EntDec: what the law EntryCodes asks of it. -/
import Derived.Test.YtkfgnjdchnpjeaaDoorEoEntEnc
import Derived.Test.YtkfgnjdchnpjeaaDoorEoWLast
import Derived.Test.YtkfgnjdchnpjeaaDoorEoWTab
import Derived.Test.YtkfgnjdchnpjeaaDoorEoWMore
namespace Go.Proofs.YtkfgnjdchnpjeaaDoor
open Go.RowKit Go.Proofs.YtkfgnjdchnpjeaaDoor.QD Go.Proofs.YtkfgnjdchnpjeaaDoorW.PrintWords Go.Proofs.YtkfgnjdchnpjeaaDoorW.PrintLast Go.Proofs.YtkfgnjdchnpjeaaDoorW.PrintMore
set_option linter.unusedVariables false
set_option linter.unusedSimpArgs false

/-- The numbers of texts one after the other, or the first error. -/
def decGo : List ByteArray → List Int → Option (Sum Int (List Int))
  | [], ns => some (.inr ns)
  | s :: r, ns => (wire_TakeInt.f s).bind fun t => if t.2 = 0 then decGo r (ns ++ [t.1]) else some (.inl t.2)
abbrev EntR := Int × Int × Int × Int × Int × Int × ByteArray × ByteArray × List S46 × Int × Int
def decZ (e : Int) : EntR := (0, 0, 0, 0, 0, 0, ⟨#[]⟩, ⟨#[]⟩, [], 0, e)
def decFin (s t v : ByteArray) : Sum Int (List Int) → Option EntR
  | .inl e => some (decZ e)
  | .inr [a, b, c, d, e, f] => (entry_legs.f (v.size + 10) v).bind fun g => if g.2 = 0 then some (a, b, c, d, e, f, s, t, g.1, 0, 0) else some (decZ g.2)
  | .inr _ => none
def decAll : List ByteArray → Option EntR
  | [a, b, c, d, e, f, s, t, v] => (decGo [a, b, c, d, e, f] []).bind (decFin s t v)
  | _ => some (decZ 25)
def entry_Decode.f (a0 : ByteArray) : Option EntR := (wire_Unpack.f a0).bind fun u => if u.2 = 0 then decAll u.1 else some (decZ u.2)
theorem decAll_ne {l : List ByteArray} (h : l.length ≠ 9) : decAll l = some (decZ 25) := by
  unfold decAll
  split
  · simp at h
  · rfl
theorem nine {l : List ByteArray} (h : l.length = 9) : ∃ a b c d e f s t v, l = [a, b, c, d, e, f, s, t, v] := by
  match l, h with
  | [a, b, c, d, e, f, s, t, v], _ => exact ⟨a, b, c, d, e, f, s, t, v, rfl⟩
/-- Ten cells of one block are written. -/
theorem blk10 {w : World} {g : Nat} {t : TypeId} {a0 a1 a2 a3 a4 a5 a6 a7 a8 a9 b0 b1 b2 b3 b4 b5 b6 b7 b8 b9 : Value} (h : w.heap[g]? = some (.cells #[a0, a1, a2, a3, a4, a5, a6, a7, a8, a9] t (0, 0))) :
    (((((((((((w.setCell ⟨g, 0, none⟩ b0).setCell ⟨g, 1, none⟩ b1).setCell ⟨g, 2, none⟩ b2).setCell ⟨g, 3, none⟩ b3).setCell ⟨g, 4, none⟩ b4).setCell ⟨g, 5, none⟩ b5).setCell ⟨g, 6, none⟩ b6).setCell ⟨g, 7, none⟩ b7).setCell ⟨g, 8, none⟩ b8).setCell ⟨g, 9, none⟩ b9)).heap[g]? = some (.cells #[b0, b1, b2, b3, b4, b5, b6, b7, b8, b9] t (0, 0)) := by
  refine blk_put (cs := #[b0, b1, b2, b3, b4, b5, b6, b7, b8, a9]) ?_ 9 _ rfl
  refine blk_put (cs := #[b0, b1, b2, b3, b4, b5, b6, b7, a8, a9]) ?_ 8 _ rfl
  refine blk_put (cs := #[b0, b1, b2, b3, b4, b5, b6, a7, a8, a9]) ?_ 7 _ rfl
  refine blk_put (cs := #[b0, b1, b2, b3, b4, b5, a6, a7, a8, a9]) ?_ 6 _ rfl
  refine blk_put (cs := #[b0, b1, b2, b3, b4, a5, a6, a7, a8, a9]) ?_ 5 _ rfl
  refine blk_put (cs := #[b0, b1, b2, b3, a4, a5, a6, a7, a8, a9]) ?_ 4 _ rfl
  refine blk_put (cs := #[b0, b1, b2, a3, a4, a5, a6, a7, a8, a9]) ?_ 3 _ rfl
  refine blk_put (cs := #[b0, b1, a2, a3, a4, a5, a6, a7, a8, a9]) ?_ 2 _ rfl
  refine blk_put (cs := #[b0, a1, a2, a3, a4, a5, a6, a7, a8, a9]) ?_ 1 _ rfl
  refine blk_put (cs := #[a0, a1, a2, a3, a4, a5, a6, a7, a8, a9]) ?_ 0 _ rfl
  exact h
theorem below10 {w0 w : World} {g : Nat} {b0 b1 b2 b3 b4 b5 b6 b7 b8 b9 : Value} (h : Below w0.heap.size w0 w) (hg : w0.heap.size ≤ g) :
    Below w0.heap.size w0 (((((((((((w.setCell ⟨g, 0, none⟩ b0).setCell ⟨g, 1, none⟩ b1).setCell ⟨g, 2, none⟩ b2).setCell ⟨g, 3, none⟩ b3).setCell ⟨g, 4, none⟩ b4).setCell ⟨g, 5, none⟩ b5).setCell ⟨g, 6, none⟩ b6).setCell ⟨g, 7, none⟩ b7).setCell ⟨g, 8, none⟩ b8).setCell ⟨g, 9, none⟩ b9)) :=
  below_set (below_set (below_set (below_set (below_set (below_set (below_set (below_set (below_set (below_set h hg) hg) hg) hg) hg) hg) hg) hg) hg) hg
theorem R10 {w : World} {g base : Nat} {u : Value} {l : List S46} {a0 a1 a2 a3 a4 a5 a6 a7 a8 a9 b0 b1 b2 b3 b4 b5 b6 b7 b8 b9 : Value} (h : Kd.R k46 46 w base (fun _ => True) u l) (hb : w.heap[g]? = some (.cells #[a0, a1, a2, a3, a4, a5, a6, a7, a8, a9] 25 (0, 0))) :
    Kd.R k46 46 (((((((((((w.setCell ⟨g, 0, none⟩ b0).setCell ⟨g, 1, none⟩ b1).setCell ⟨g, 2, none⟩ b2).setCell ⟨g, 3, none⟩ b3).setCell ⟨g, 4, none⟩ b4).setCell ⟨g, 5, none⟩ b5).setCell ⟨g, 6, none⟩ b6).setCell ⟨g, 7, none⟩ b7).setCell ⟨g, 8, none⟩ b8).setCell ⟨g, 9, none⟩ b9)) base (fun _ => True) u l := by
  have hq : ∀ q, q ∈ 46 :: k46.E → q ≠ 25 := by decide
  have key : ∀ (W : World) (cs : Array Value) (j : Nat) (x : Value), W.heap[g]? = some (.cells cs 25 (0, 0)) → Kd.R k46 46 W base (fun _ => True) u l → (W.setCell ⟨g, j, none⟩ x).heap[g]? = some (.cells (cs.setIfInBounds j x) 25 (0, 0)) ∧ Kd.R k46 46 (W.setCell ⟨g, j, none⟩ x) base (fun _ => True) u l := fun W cs j x h1 h2 => ⟨blk_set h1 j x, Kd.R_set h2 h1 hq j x⟩
  have h0 := key _ _ 0 b0 hb h
  have h1 := key _ _ 1 b1 h0.1 h0.2
  have h2 := key _ _ 2 b2 h1.1 h1.2
  have h3 := key _ _ 3 b3 h2.1 h2.2
  have h4 := key _ _ 4 b4 h3.1 h3.2
  have h5 := key _ _ 5 b5 h4.1 h4.2
  have h6 := key _ _ 6 b6 h5.1 h5.2
  have h7 := key _ _ 7 b7 h6.1 h6.2
  have h8 := key _ _ 8 b8 h7.1 h7.2
  have h9 := key _ _ 9 b9 h8.1 h8.2
  exact h9.2
theorem cell_drew_ {W : World} {a : Addr} {x : Option Value} (h : W.cell? a = x) : W.drew.cell? a = x := h
set_option maxRecDepth 100000
set_option maxHeartbeats 4000000 in
theorem entry_Decode.calls (a0 : ByteArray) (r1 r2 r3 r4 r5 r6 : Int) (r7 r8 : ByteArray) (r9 : List S46) (r10 r11 : Int) (w : World) (HTab_ : TabW w) (h : entry_Decode.f a0 = some (r1, r2, r3, r4, r5, r6, r7, r8, r9, r10, r11)) :
    Calls Tryd.prog 23 #[.string a0] w fun e w' => ∃ v8_ : Value, e = .returned (.tuple #[.agg #[.int .i64 r1, .int .i64 r2, .int .i64 r3, .int .i64 r4, .int .i64 r5, .int .i64 r6, .string r7, .string r8, v8_, .int .u64 r10], .int .i64 r11]) ∧ Kd.R k46 46 w' w.heap.size (fun _ => True) v8_ r9 ∧ Below w.heap.size w w' := by
  have hu25 := Tryd.underlying25
  unfold entry_Decode.f at h
  obtain ⟨⟨l, er⟩, hu, hd⟩ := Option.bind_eq_some_iff.1 h
  simp only at hd
  clear h
  have HT := Lib.hid HTab_
  have HU := Lib.hid hu
  clear HTab_ hu
  by_cases he : er = 0
  case neg =>
    rw [if_neg he] at hd
    have hd2 := Option.some.inj hd
    unfold decZ at hd2
    simp only [Prod.mk.injEq] at hd2
    obtain ⟨rfl, rfl, rfl, rfl, rfl, rfl, rfl, rfl, rfl, rfl, rfl⟩ := hd2
    have heb : (er != 0) = true := bne_iff_ne.2 he
    clear hd
    go_enter Tryd.func23, Tryd.ntmps23
    go_wp2_with (go_at_call 46; refine (wire_Unpack.calls a0 l er _ HU.out).mono ?_; rintro e w' ⟨v0, rfl, hR, hb⟩; have HR := Lib.hid hR; have HB := Lib.hid hb; have hblk : w'.heap[w.heap.size]? = some (.cells #[.int .i64 0, .int .i64 0, .int .i64 0, .int .i64 0, .int .i64 0, .int .i64 0, .string (⟨#[]⟩ : ByteArray), .string (⟨#[]⟩ : ByteArray), .slice none 0 0, .int .u64 0] 25 (0, 0)) := (hb.block _ (by rw [World.size_alloc]; omega)).trans (heap_alloc_new w _); have hcz0 : w'.cell? ⟨w.heap.size, 0, none⟩ = some (.int .i64 0) := (blk_cell hblk 0).trans rfl; have hfz0 := blk_frozen hblk 0; have hcz1 : w'.cell? ⟨w.heap.size, 1, none⟩ = some (.int .i64 0) := (blk_cell hblk 1).trans rfl; have hfz1 := blk_frozen hblk 1; have hcz2 : w'.cell? ⟨w.heap.size, 2, none⟩ = some (.int .i64 0) := (blk_cell hblk 2).trans rfl; have hfz2 := blk_frozen hblk 2; have hcz3 : w'.cell? ⟨w.heap.size, 3, none⟩ = some (.int .i64 0) := (blk_cell hblk 3).trans rfl; have hfz3 := blk_frozen hblk 3; have hcz4 : w'.cell? ⟨w.heap.size, 4, none⟩ = some (.int .i64 0) := (blk_cell hblk 4).trans rfl; have hfz4 := blk_frozen hblk 4; have hcz5 : w'.cell? ⟨w.heap.size, 5, none⟩ = some (.int .i64 0) := (blk_cell hblk 5).trans rfl; have hfz5 := blk_frozen hblk 5; have hcz6 : w'.cell? ⟨w.heap.size, 6, none⟩ = some (.string (⟨#[]⟩ : ByteArray)) := (blk_cell hblk 6).trans rfl; have hfz6 := blk_frozen hblk 6; have hcz7 : w'.cell? ⟨w.heap.size, 7, none⟩ = some (.string (⟨#[]⟩ : ByteArray)) := (blk_cell hblk 7).trans rfl; have hfz7 := blk_frozen hblk 7; have hcz8 : w'.cell? ⟨w.heap.size, 8, none⟩ = some (.slice none 0 0) := (blk_cell hblk 8).trans rfl; have hfz8 := blk_frozen hblk 8; have hcz9 : w'.cell? ⟨w.heap.size, 9, none⟩ = some (.int .u64 0) := (blk_cell hblk 9).trans rfl; have hfz9 := blk_frozen hblk 9; have HK := Lib.hid hblk; clear hR hb hblk)
    refine bodyPost_ret (results_ct rfl _ _ w.heap.size 25 #[.int .i64 0, .int .i64 0, .int .i64 0, .int .i64 0, .int .i64 0, .int .i64 0, .string (⟨#[]⟩ : ByteArray), .string (⟨#[]⟩ : ByteArray), .slice none 0 0, .int .u64 0] (0, 0) _ rfl (blk10 HK.out) Tryd.underlying25 rfl (by kernel_rfl)) rfl ?_
    exact ⟨_, rfl, Kd.R_nil _ _ _ _ _, below10 (below_then (below_alloc (Below.refl _ _) _) (by rw [World.size_alloc]; omega) HB.out) (Nat.le_refl _)⟩
  case pos =>
    subst he
    rw [if_pos rfl] at hd
    by_cases h9 : l.length = 9
    case neg =>
      rw [decAll_ne h9] at hd
      have hd2 := Option.some.inj hd
      unfold decZ at hd2
      simp only [Prod.mk.injEq] at hd2
      obtain ⟨rfl, rfl, rfl, rfl, rfl, rfl, rfl, rfl, rfl, rfl, rfl⟩ := hd2
      have h9b : ((l.length : Int) != 9) = true := bne_iff_ne.2 (by omega)
      clear hd
      go_enter Tryd.func23, Tryd.ntmps23
      go_wp2_with (go_at_call 46; refine (wire_Unpack.calls a0 l 0 _ HU.out).mono ?_; rintro e w' ⟨v0, rfl, hR, hb⟩; obtain ⟨Ax, cx, rfl⟩ := Kd.R_slice hR; have HR := Lib.hid hR; have HB := Lib.hid hb; have hblk : w'.heap[w.heap.size]? = some (.cells #[.int .i64 0, .int .i64 0, .int .i64 0, .int .i64 0, .int .i64 0, .int .i64 0, .string (⟨#[]⟩ : ByteArray), .string (⟨#[]⟩ : ByteArray), .slice none 0 0, .int .u64 0] 25 (0, 0)) := (hb.block _ (by rw [World.size_alloc]; omega)).trans (heap_alloc_new w _); have hcz0 : w'.cell? ⟨w.heap.size, 0, none⟩ = some (.int .i64 0) := (blk_cell hblk 0).trans rfl; have hfz0 := blk_frozen hblk 0; have hcz1 : w'.cell? ⟨w.heap.size, 1, none⟩ = some (.int .i64 0) := (blk_cell hblk 1).trans rfl; have hfz1 := blk_frozen hblk 1; have hcz2 : w'.cell? ⟨w.heap.size, 2, none⟩ = some (.int .i64 0) := (blk_cell hblk 2).trans rfl; have hfz2 := blk_frozen hblk 2; have hcz3 : w'.cell? ⟨w.heap.size, 3, none⟩ = some (.int .i64 0) := (blk_cell hblk 3).trans rfl; have hfz3 := blk_frozen hblk 3; have hcz4 : w'.cell? ⟨w.heap.size, 4, none⟩ = some (.int .i64 0) := (blk_cell hblk 4).trans rfl; have hfz4 := blk_frozen hblk 4; have hcz5 : w'.cell? ⟨w.heap.size, 5, none⟩ = some (.int .i64 0) := (blk_cell hblk 5).trans rfl; have hfz5 := blk_frozen hblk 5; have hcz6 : w'.cell? ⟨w.heap.size, 6, none⟩ = some (.string (⟨#[]⟩ : ByteArray)) := (blk_cell hblk 6).trans rfl; have hfz6 := blk_frozen hblk 6; have hcz7 : w'.cell? ⟨w.heap.size, 7, none⟩ = some (.string (⟨#[]⟩ : ByteArray)) := (blk_cell hblk 7).trans rfl; have hfz7 := blk_frozen hblk 7; have hcz8 : w'.cell? ⟨w.heap.size, 8, none⟩ = some (.slice none 0 0) := (blk_cell hblk 8).trans rfl; have hfz8 := blk_frozen hblk 8; have hcz9 : w'.cell? ⟨w.heap.size, 9, none⟩ = some (.int .u64 0) := (blk_cell hblk 9).trans rfl; have hfz9 := blk_frozen hblk 9; have HK := Lib.hid hblk; clear hR hb hblk)
      refine bodyPost_ret (results_ct rfl _ _ w.heap.size 25 #[.int .i64 0, .int .i64 0, .int .i64 0, .int .i64 0, .int .i64 0, .int .i64 0, .string (⟨#[]⟩ : ByteArray), .string (⟨#[]⟩ : ByteArray), .slice none 0 0, .int .u64 0] (0, 0) _ rfl (blk10 HK.out) Tryd.underlying25 rfl (by kernel_rfl)) rfl ?_
      exact ⟨_, rfl, Kd.R_nil _ _ _ _ _, below10 (below_then (below_alloc (Below.refl _ _) _) (by rw [World.size_alloc]; omega) HB.out) (Nat.le_refl _)⟩
    case pos =>
      obtain ⟨a, b, c, d, e, f, s, t, v, rfl⟩ := nine h9
      obtain ⟨x, hx, hf⟩ := Option.bind_eq_some_iff.1 (show (decGo [a, b, c, d, e, f] []).bind (decFin s t v) = some (r1, r2, r3, r4, r5, r6, r7, r8, r9, r10, r11) from hd)
      have HX := Lib.hid hx
      have HF := Lib.hid hf
      clear hd hx hf h9
      go_enter Tryd.func23, Tryd.ntmps23
      go_wp2_with (go_at_call 46; refine (wire_Unpack.calls a0 [a, b, c, d, e, f, s, t, v] 0 _ HU.out).mono ?_; rintro e0 W1 ⟨v0, rfl, hR, hb⟩; obtain ⟨Ax, cx, rfl⟩ := Kd.R_slice hR; have HR := Lib.hid hR; have HB := Lib.hid hb; have HK := Lib.hid (show W1.heap[w.heap.size]? = some (.cells #[.int .i64 0, .int .i64 0, .int .i64 0, .int .i64 0, .int .i64 0, .int .i64 0, .string (⟨#[]⟩ : ByteArray), .string (⟨#[]⟩ : ByteArray), .slice none 0 0, .int .u64 0] 25 (0, 0)) from (hb.block _ (by rw [World.size_alloc]; omega)).trans (heap_alloc_new w _)); clear hR hb)
      go_loopw [22] (fun v22 wr => ∃ (i : Nat) (cs : Array Value) (ns : List Int), v22 = .int .i64 i ∧ Hid (i ≤ 6 ∧ ns.length = i ∧ decGo ([a, b, c, d, e, f].drop i) ns = some x ∧ cs.size = 6 ∧ (∀ j (hj : j < ns.length), cs[j]? = some (.int .i64 ns[j])) ∧ wr.heap[W1.heap.size]? = some (.cells cs 65 (0, 0)) ∧ Below W1.heap.size W1 wr)) (fun v22 _ => 6 - (intOf v22).toNat)
      case atStart =>
        exact ⟨0, _, [], rfl, Lib.hid ⟨by omega, rfl, HX.out, rfl, fun j hj => absurd hj (by simp), heap_alloc_new _ _, below_alloc (Below.refl _ _) _⟩⟩
      case round =>
        obtain ⟨i, cs, ns, rfl, hh⟩ := hrel
        obtain ⟨hi, hn, hg, hcs, hcells, hblk, hB⟩ := hh.out
        clear hh
        by_cases hlt : i < 6
        · have key : ∃ y, [a, b, c, d, e, f].drop i = y :: [a, b, c, d, e, f].drop (i + 1) ∧ rdOf ByteArray.empty [a, b, c, d, e, f, s, t, v] (i : Int) = y := by
            rcases i with _ | _ | _ | _ | _ | _ | i
            · exact ⟨_, rfl, rfl⟩
            · exact ⟨_, rfl, rfl⟩
            · exact ⟨_, rfl, rfl⟩
            · exact ⟨_, rfl, rfl⟩
            · exact ⟨_, rfl, rfl⟩
            · exact ⟨_, rfl, rfl⟩
            · omega
          obtain ⟨y, hy, hry⟩ := key
          rw [hy] at hg
          obtain ⟨⟨n, en⟩, htk, hg2⟩ := Option.bind_eq_some_iff.1 (show (wire_TakeInt.f y).bind (fun t => if t.2 = 0 then decGo ([a, b, c, d, e, f].drop (i + 1)) (ns ++ [t.1]) else some (.inl t.2)) = some x from hg)
          simp only at hg2
          obtain ⟨ad, ead, hcell0⟩ := Kd.at_string (Kd.R_reads' HR.out).2.2 (i : Int) (by omega) (by simp; omega)
          rw [hry] at hcell0
          subst ead
          have hcell := (hB.cell (World.block_lt_of_cell? _ _ hcell0)).trans hcell0
          rw [Int.toNat_natCast] at hcell
          have hlt2 : (i : Int) < 6 := by omega
          have hlt9 : (i : Int) < 9 := by omega
          have hk0 : wr.heap[w.heap.size]? = some (.cells #[.int .i64 0, .int .i64 0, .int .i64 0, .int .i64 0, .int .i64 0, .int .i64 0, .string (⟨#[]⟩ : ByteArray), .string (⟨#[]⟩ : ByteArray), .slice none 0 0, .int .u64 0] 25 (0, 0)) := (hB.block _ (blk_lt HK.out)).trans HK.out
          have hne : w.heap.size ≠ W1.heap.size := Nat.ne_of_lt (blk_lt HK.out)
          obtain ⟨old, hold⟩ : ∃ old, cs[i]? = some old := ⟨_, Array.getElem?_eq_getElem (by omega)⟩
          have hbw : Below w.heap.size w wr := below_then (below_then (below_alloc (Below.refl _ _) _) (by rw [World.size_alloc]; omega) HB.out) (by have := HB.out.size; rw [World.size_alloc] at this; omega) hB
          have HQ := Lib.hid (And.intro hi (And.intro hn (And.intro htk (And.intro hcs (And.intro hcells (And.intro hblk (And.intro hB (And.intro hk0 (And.intro hne (And.intro hold hbw))))))))))
          clear hi hn hg htk hcs hcells hblk hB hk0 hne hold hbw hy hry hcell0 hlt
          by_cases hen : en = 0
          · subst hen
            rw [if_pos rfl] at hg2
            have HG := Lib.hid hg2
            clear hg2
            go_wp2_with (go_at_call 47; refine (wire_TakeInt.calls y n 0 _ (HT.out.below HQ.out.2.2.2.2.2.2.2.2.2.2) HQ.out.2.2.1).mono ?_; rintro e0 w' ⟨rfl, hb⟩; have HB1 := Lib.hid hb; have hb1 := (hb.block _ (blk_lt HQ.out.2.2.2.2.2.1)).trans HQ.out.2.2.2.2.2.1; have hc1 : w'.cell? ⟨W1.heap.size, i, none⟩ = some old := (blk_cell hb1 i).trans HQ.out.2.2.2.2.2.2.2.2.2.1; have hf1 := blk_frozen hb1 i; have HB2 := Lib.hid hb1; clear hb hb1)
            obtain ⟨hi, hn, htk, hcs, hcells, hblk, hB, hk0, hne, hold, hbw⟩ := HQ.out
            refine ⟨⟨i + 1, cs.setIfInBounds i (.int .i64 n), ns ++ [n], ?_, Lib.hid ⟨by omega, by simp [hn], HG.out, by simp [hcs], ?_, blk_set HB2.out i _, ?_⟩⟩, ?_⟩
            · rw [show ((i : Int) + 1) = ((i + 1 : Nat) : Int) by omega]
            · intro j hj
              rw [Array.getElem?_setIfInBounds]
              by_cases hji : i = j
              · subst hji
                rw [if_pos rfl, if_pos (by omega)]
                congr 2
                rw [List.getElem_append_right (by omega)]
                simp
              · have hj2 : j < ns.length := by simp at hj; omega
                rw [if_neg hji, hcells j hj2, List.getElem_append_left hj2]
            · exact below_set (below_then hB hB.size HB1.out) (Nat.le_refl _)
            · simp only [intOf]
              omega
          · rw [if_neg hen] at hg2
            obtain rfl := (Option.some.inj hg2)
            have hd2 := Option.some.inj (show some (decZ en) = some (r1, r2, r3, r4, r5, r6, r7, r8, r9, r10, r11) from HF.out)
            unfold decZ at hd2
            simp only [Prod.mk.injEq] at hd2
            obtain ⟨rfl, rfl, rfl, rfl, rfl, rfl, rfl, rfl, rfl, rfl, rfl⟩ := hd2
            have henb : (en != 0) = true := bne_iff_ne.2 hen
            go_wp2_with (go_at_call 47; refine (wire_TakeInt.calls y n en _ (HT.out.below HQ.out.2.2.2.2.2.2.2.2.2.2) HQ.out.2.2.1).mono ?_; rintro e0 w' ⟨rfl, hb⟩; have HB1 := Lib.hid hb; have hb1 := (hb.block _ (blk_lt HQ.out.2.2.2.2.2.1)).trans HQ.out.2.2.2.2.2.1; have hc1 : w'.cell? ⟨W1.heap.size, i, none⟩ = some old := (blk_cell hb1 i).trans HQ.out.2.2.2.2.2.2.2.2.2.1; have hf1 := blk_frozen hb1 i; have hblk : (w'.setCell ⟨W1.heap.size, i, none⟩ (.int .i64 n)).heap[w.heap.size]? = some (.cells #[.int .i64 0, .int .i64 0, .int .i64 0, .int .i64 0, .int .i64 0, .int .i64 0, .string (⟨#[]⟩ : ByteArray), .string (⟨#[]⟩ : ByteArray), .slice none 0 0, .int .u64 0] 25 (0, 0)) := blk_far ((hb.block _ (blk_lt HQ.out.2.2.2.2.2.2.2.1)).trans HQ.out.2.2.2.2.2.2.2.1) HQ.out.2.2.2.2.2.2.2.2.1 _; have hcz0 : (w'.setCell ⟨W1.heap.size, i, none⟩ (.int .i64 n)).cell? ⟨w.heap.size, 0, none⟩ = some (.int .i64 0) := (blk_cell hblk 0).trans rfl; have hfz0 := blk_frozen hblk 0; have hcz1 : (w'.setCell ⟨W1.heap.size, i, none⟩ (.int .i64 n)).cell? ⟨w.heap.size, 1, none⟩ = some (.int .i64 0) := (blk_cell hblk 1).trans rfl; have hfz1 := blk_frozen hblk 1; have hcz2 : (w'.setCell ⟨W1.heap.size, i, none⟩ (.int .i64 n)).cell? ⟨w.heap.size, 2, none⟩ = some (.int .i64 0) := (blk_cell hblk 2).trans rfl; have hfz2 := blk_frozen hblk 2; have hcz3 : (w'.setCell ⟨W1.heap.size, i, none⟩ (.int .i64 n)).cell? ⟨w.heap.size, 3, none⟩ = some (.int .i64 0) := (blk_cell hblk 3).trans rfl; have hfz3 := blk_frozen hblk 3; have hcz4 : (w'.setCell ⟨W1.heap.size, i, none⟩ (.int .i64 n)).cell? ⟨w.heap.size, 4, none⟩ = some (.int .i64 0) := (blk_cell hblk 4).trans rfl; have hfz4 := blk_frozen hblk 4; have hcz5 : (w'.setCell ⟨W1.heap.size, i, none⟩ (.int .i64 n)).cell? ⟨w.heap.size, 5, none⟩ = some (.int .i64 0) := (blk_cell hblk 5).trans rfl; have hfz5 := blk_frozen hblk 5; have hcz6 : (w'.setCell ⟨W1.heap.size, i, none⟩ (.int .i64 n)).cell? ⟨w.heap.size, 6, none⟩ = some (.string (⟨#[]⟩ : ByteArray)) := (blk_cell hblk 6).trans rfl; have hfz6 := blk_frozen hblk 6; have hcz7 : (w'.setCell ⟨W1.heap.size, i, none⟩ (.int .i64 n)).cell? ⟨w.heap.size, 7, none⟩ = some (.string (⟨#[]⟩ : ByteArray)) := (blk_cell hblk 7).trans rfl; have hfz7 := blk_frozen hblk 7; have hcz8 : (w'.setCell ⟨W1.heap.size, i, none⟩ (.int .i64 n)).cell? ⟨w.heap.size, 8, none⟩ = some (.slice none 0 0) := (blk_cell hblk 8).trans rfl; have hfz8 := blk_frozen hblk 8; have hcz9 : (w'.setCell ⟨W1.heap.size, i, none⟩ (.int .i64 n)).cell? ⟨w.heap.size, 9, none⟩ = some (.int .u64 0) := (blk_cell hblk 9).trans rfl; have hfz9 := blk_frozen hblk 9; have HK2 := Lib.hid hblk; clear hb hb1 hblk)
            obtain ⟨hi, hn, htk, hcs, hcells, hblk, hB, hk0, hne, hold, hbw⟩ := HQ.out
            refine bodyPost_ret (results_ct rfl _ _ w.heap.size 25 #[.int .i64 0, .int .i64 0, .int .i64 0, .int .i64 0, .int .i64 0, .int .i64 0, .string (⟨#[]⟩ : ByteArray), .string (⟨#[]⟩ : ByteArray), .slice none 0 0, .int .u64 0] (0, 0) _ rfl (blk10 HK2.out) Tryd.underlying25 rfl (by kernel_rfl)) rfl ?_
            exact ⟨_, rfl, Kd.R_nil _ _ _ _ _, below10 (below_set (below_then hbw hbw.size HB1.out) (Nat.le_of_lt (blk_lt HK.out) |> fun h => Nat.le_trans (by have := HB.out.size; rw [World.size_alloc] at this; omega) (Nat.le_refl W1.heap.size))) (Nat.le_refl _)⟩
        · obtain rfl : i = 6 := by omega
          have hz : ¬ ((6 : Nat) : Int) < 6 := by omega
          have hx6 := Option.some.inj (show some (Sum.inr ns) = some x from hg)
          subst hx6
          obtain ⟨n0, n1, n2, n3, n4, n5, rfl⟩ : ∃ n0 n1 n2 n3 n4 n5, ns = [n0, n1, n2, n3, n4, n5] := by
            match ns, hn with
            | [n0, n1, n2, n3, n4, n5], _ => exact ⟨n0, n1, n2, n3, n4, n5, rfl⟩
          obtain ⟨⟨ls, el⟩, hgl, hd2⟩ := Option.bind_eq_some_iff.1 (show (entry_legs.f (v.size + 10) v).bind (fun g => if g.2 = 0 then some (n0, n1, n2, n3, n4, n5, s, t, g.1, 0, 0) else some (decZ g.2)) = some (r1, r2, r3, r4, r5, r6, r7, r8, r9, r10, r11) from HF.out)
          simp only at hd2
          have hk0 : wr.heap[w.heap.size]? = some (.cells #[.int .i64 0, .int .i64 0, .int .i64 0, .int .i64 0, .int .i64 0, .int .i64 0, .string (⟨#[]⟩ : ByteArray), .string (⟨#[]⟩ : ByteArray), .slice none 0 0, .int .u64 0] 25 (0, 0)) := (hB.block _ (blk_lt HK.out)).trans HK.out
          have hbw : Below w.heap.size w wr := below_then (below_then (below_alloc (Below.refl _ _) _) (by rw [World.size_alloc]; omega) HB.out) (by have := HB.out.size; rw [World.size_alloc] at this; omega) hB
          obtain ⟨ad, ead, hs6⟩ := Kd.at_string (Kd.R_reads' HR.out).2.2 6 (by omega) (by simp)
          obtain ⟨ad', ead', hs7⟩ := Kd.at_string (Kd.R_reads' HR.out).2.2 7 (by omega) (by simp)
          subst ead
          obtain rfl := Option.some.inj ead'
          obtain ⟨ad', ead2, hs8⟩ := Kd.at_string (Kd.R_reads' HR.out).2.2 8 (by omega) (by simp)
          obtain rfl := Option.some.inj ead2
          replace hs6 : W1.cell? ⟨ad.block, ad.off + 6, none⟩ = some (.string s) := hs6
          have hs6' : wr.cell? ⟨ad.block, ad.off + 6, none⟩ = some (.string s) := (hB.cell (World.block_lt_of_cell? _ _ hs6)).trans hs6
          replace hs7 : W1.cell? ⟨ad.block, ad.off + 7, none⟩ = some (.string t) := hs7
          have hs7' : wr.cell? ⟨ad.block, ad.off + 7, none⟩ = some (.string t) := (hB.cell (World.block_lt_of_cell? _ _ hs7)).trans hs7
          replace hs8 : W1.cell? ⟨ad.block, ad.off + 8, none⟩ = some (.string v) := hs8
          have hs8' : wr.cell? ⟨ad.block, ad.off + 8, none⟩ = some (.string v) := (hB.cell (World.block_lt_of_cell? _ _ hs8)).trans hs8
          have ha0 : wr.cell? ⟨W1.heap.size, 0, none⟩ = some (.int .i64 n0) := (blk_cell hblk 0).trans (hcells 0 (by simp))
          have ha1 : wr.cell? ⟨W1.heap.size, 1, none⟩ = some (.int .i64 n1) := (blk_cell hblk 1).trans (hcells 1 (by simp))
          have ha2 : wr.cell? ⟨W1.heap.size, 2, none⟩ = some (.int .i64 n2) := (blk_cell hblk 2).trans (hcells 2 (by simp))
          have ha3 : wr.cell? ⟨W1.heap.size, 3, none⟩ = some (.int .i64 n3) := (blk_cell hblk 3).trans (hcells 3 (by simp))
          have ha4 : wr.cell? ⟨W1.heap.size, 4, none⟩ = some (.int .i64 n4) := (blk_cell hblk 4).trans (hcells 4 (by simp))
          have ha5 : wr.cell? ⟨W1.heap.size, 5, none⟩ = some (.int .i64 n5) := (blk_cell hblk 5).trans (hcells 5 (by simp))
          have HV := Lib.hid (And.intro hs8' (And.intro hk0 (And.intro hbw hgl)))
          clear hi hn hg hcs hcells hblk hB hs6 hs7 hs8 hs8' hk0 hbw ead' ead2 hlt hgl
          go_wp2
          go_region_held3 (fun w' => w'.cell? ⟨W1.heap.size, 0, none⟩ = some (.int .i64 n0) ∧ w'.cell? ⟨W1.heap.size, 1, none⟩ = some (.int .i64 n1) ∧ w'.cell? ⟨W1.heap.size, 2, none⟩ = some (.int .i64 n2) ∧ w'.cell? ⟨W1.heap.size, 3, none⟩ = some (.int .i64 n3) ∧ w'.cell? ⟨W1.heap.size, 4, none⟩ = some (.int .i64 n4) ∧ w'.cell? ⟨W1.heap.size, 5, none⟩ = some (.int .i64 n5) ∧ w'.cell? ⟨ad.block, ad.off + 6, none⟩ = some (.string s) ∧ w'.cell? ⟨ad.block, ad.off + 7, none⟩ = some (.string t))
            (first
              | go_keep
              | exact ⟨cell_drew_ (cell?_alloc_some_ _ ha0), cell_drew_ (cell?_alloc_some_ _ ha1), cell_drew_ (cell?_alloc_some_ _ ha2), cell_drew_ (cell?_alloc_some_ _ ha3), cell_drew_ (cell?_alloc_some_ _ ha4), cell_drew_ (cell?_alloc_some_ _ ha5), cell_drew_ (cell?_alloc_some_ _ hs6'), cell_drew_ (cell?_alloc_some_ _ hs7')⟩
              | exact ⟨cell?_alloc_some_ _ ha0, cell?_alloc_some_ _ ha1, cell?_alloc_some_ _ ha2, cell?_alloc_some_ _ ha3, cell?_alloc_some_ _ ha4, cell?_alloc_some_ _ ha5, cell?_alloc_some_ _ hs6', cell?_alloc_some_ _ hs7'⟩)
            (first | fail)
          clear ha0 ha1 ha2 ha3 ha4 ha5 hs6' hs7'
          obtain ⟨W3, hW3⟩ : ∃ W3, (wr.alloc (.cells #[Value.int .i64 n0, Value.int .i64 n1, Value.int .i64 n2, Value.int .i64 n3, Value.int .i64 n4, Value.int .i64 n5, Value.string s, Value.string t, Value.slice none 0 0, Value.int .u64 0] 25)).drew = W3 := ⟨_, rfl⟩
          rw [hW3]
          have ho3 : W3.heap[wr.heap.size]? = some (.cells #[Value.int .i64 n0, Value.int .i64 n1, Value.int .i64 n2, Value.int .i64 n3, Value.int .i64 n4, Value.int .i64 n5, Value.string s, Value.string t, Value.slice none 0 0, Value.int .u64 0] 25 (0, 0)) := by rw [← hW3]; exact heap_alloc_new wr _
          have hb3 : Below wr.heap.size wr W3 := by rw [← hW3]; exact (below_alloc (Below.refl _ _) _).drew
          have hk3 : W3.heap[w.heap.size]? = some (.cells #[.int .i64 0, .int .i64 0, .int .i64 0, .int .i64 0, .int .i64 0, .int .i64 0, .string (⟨#[]⟩ : ByteArray), .string (⟨#[]⟩ : ByteArray), .slice none 0 0, .int .u64 0] 25 (0, 0)) := (hb3.block _ (blk_lt HV.out.2.1)).trans HV.out.2.1
          have hbw3 : Below w.heap.size w W3 := below_then HV.out.2.2.1 HV.out.2.2.1.size hb3
          have hs8 : W3.cell? ⟨ad.block, ad.off + 8, none⟩ = some (.string v) := (hb3.cell (World.block_lt_of_cell? _ _ HV.out.1)).trans HV.out.1
          have hne3 : w.heap.size ≠ wr.heap.size := Nat.ne_of_lt (blk_lt HV.out.2.1)
          have HW := Lib.hid (And.intro ho3 (And.intro hk3 (And.intro hbw3 hne3)))
          clear ho3 hb3 hk3 hbw3 hne3
          by_cases hel : el = 0
          · subst hel
            rw [if_pos rfl] at hd2
            have hd3 := Option.some.inj hd2
            simp only [Prod.mk.injEq] at hd3
            obtain ⟨rfl, rfl, rfl, rfl, rfl, rfl, rfl, rfl, rfl, rfl, rfl⟩ := hd3
            go_wp2_with (go_at_call 48; refine (entry_legs.calls (v.size + 10) v ls 0 _ (HT.out.below HW.out.2.2.1) HV.out.2.2.2).mono ?_; rintro e5 W5 ⟨v5, rfl, hR5, hb5⟩; obtain ⟨A5, c5, rfl⟩ := Kd.R_slice hR5; have hob := (hb5.block _ (blk_lt HW.out.1)).trans HW.out.1; have hc8 : W5.cell? ⟨wr.heap.size, 8, none⟩ = some (.slice none 0 0) := (blk_cell hob 8).trans rfl; have hf8 := blk_frozen hob 8; have hkb := blk_far ((hb5.block _ (blk_lt HW.out.2.1)).trans HW.out.2.1) (p := ⟨wr.heap.size, 8, none⟩) HW.out.2.2.2 (.slice A5 ls.length c5);  have hno : (W5.setCell ⟨wr.heap.size, 8, none⟩ (.slice A5 ls.length c5)).heap[wr.heap.size]? = some (.cells #[Value.int .i64 n0, Value.int .i64 n1, Value.int .i64 n2, Value.int .i64 n3, Value.int .i64 n4, Value.int .i64 n5, Value.string s, Value.string t, (.slice A5 ls.length c5), Value.int .u64 0] 25 (0, 0)) := blk_put hob 8 _ rfl; have hcz0 : (W5.setCell ⟨wr.heap.size, 8, none⟩ (.slice A5 ls.length c5)).cell? ⟨w.heap.size, 0, none⟩ = some (.int .i64 0) := (blk_cell hkb 0).trans rfl; have hfz0 := blk_frozen hkb 0; have hcz1 : (W5.setCell ⟨wr.heap.size, 8, none⟩ (.slice A5 ls.length c5)).cell? ⟨w.heap.size, 1, none⟩ = some (.int .i64 0) := (blk_cell hkb 1).trans rfl; have hfz1 := blk_frozen hkb 1; have hcz2 : (W5.setCell ⟨wr.heap.size, 8, none⟩ (.slice A5 ls.length c5)).cell? ⟨w.heap.size, 2, none⟩ = some (.int .i64 0) := (blk_cell hkb 2).trans rfl; have hfz2 := blk_frozen hkb 2; have hcz3 : (W5.setCell ⟨wr.heap.size, 8, none⟩ (.slice A5 ls.length c5)).cell? ⟨w.heap.size, 3, none⟩ = some (.int .i64 0) := (blk_cell hkb 3).trans rfl; have hfz3 := blk_frozen hkb 3; have hcz4 : (W5.setCell ⟨wr.heap.size, 8, none⟩ (.slice A5 ls.length c5)).cell? ⟨w.heap.size, 4, none⟩ = some (.int .i64 0) := (blk_cell hkb 4).trans rfl; have hfz4 := blk_frozen hkb 4; have hcz5 : (W5.setCell ⟨wr.heap.size, 8, none⟩ (.slice A5 ls.length c5)).cell? ⟨w.heap.size, 5, none⟩ = some (.int .i64 0) := (blk_cell hkb 5).trans rfl; have hfz5 := blk_frozen hkb 5; have hcz6 : (W5.setCell ⟨wr.heap.size, 8, none⟩ (.slice A5 ls.length c5)).cell? ⟨w.heap.size, 6, none⟩ = some (.string (⟨#[]⟩ : ByteArray)) := (blk_cell hkb 6).trans rfl; have hfz6 := blk_frozen hkb 6; have hcz7 : (W5.setCell ⟨wr.heap.size, 8, none⟩ (.slice A5 ls.length c5)).cell? ⟨w.heap.size, 7, none⟩ = some (.string (⟨#[]⟩ : ByteArray)) := (blk_cell hkb 7).trans rfl; have hfz7 := blk_frozen hkb 7; have hcz8 : (W5.setCell ⟨wr.heap.size, 8, none⟩ (.slice A5 ls.length c5)).cell? ⟨w.heap.size, 8, none⟩ = some (.slice none 0 0) := (blk_cell hkb 8).trans rfl; have hfz8 := blk_frozen hkb 8; have hcz9 : (W5.setCell ⟨wr.heap.size, 8, none⟩ (.slice A5 ls.length c5)).cell? ⟨w.heap.size, 9, none⟩ = some (.int .u64 0) := (blk_cell hkb 9).trans rfl; have hfz9 := blk_frozen hkb 9; have hcn0 : (W5.setCell ⟨wr.heap.size, 8, none⟩ (.slice A5 ls.length c5)).cell? ⟨wr.heap.size, 0, none⟩ = some (Value.int .i64 n0) := (blk_cell hno 0).trans rfl; have hcn1 : (W5.setCell ⟨wr.heap.size, 8, none⟩ (.slice A5 ls.length c5)).cell? ⟨wr.heap.size, 1, none⟩ = some (Value.int .i64 n1) := (blk_cell hno 1).trans rfl; have hcn2 : (W5.setCell ⟨wr.heap.size, 8, none⟩ (.slice A5 ls.length c5)).cell? ⟨wr.heap.size, 2, none⟩ = some (Value.int .i64 n2) := (blk_cell hno 2).trans rfl; have hcn3 : (W5.setCell ⟨wr.heap.size, 8, none⟩ (.slice A5 ls.length c5)).cell? ⟨wr.heap.size, 3, none⟩ = some (Value.int .i64 n3) := (blk_cell hno 3).trans rfl; have hcn4 : (W5.setCell ⟨wr.heap.size, 8, none⟩ (.slice A5 ls.length c5)).cell? ⟨wr.heap.size, 4, none⟩ = some (Value.int .i64 n4) := (blk_cell hno 4).trans rfl; have hcn5 : (W5.setCell ⟨wr.heap.size, 8, none⟩ (.slice A5 ls.length c5)).cell? ⟨wr.heap.size, 5, none⟩ = some (Value.int .i64 n5) := (blk_cell hno 5).trans rfl; have hcn6 : (W5.setCell ⟨wr.heap.size, 8, none⟩ (.slice A5 ls.length c5)).cell? ⟨wr.heap.size, 6, none⟩ = some (Value.string s) := (blk_cell hno 6).trans rfl; have hcn7 : (W5.setCell ⟨wr.heap.size, 8, none⟩ (.slice A5 ls.length c5)).cell? ⟨wr.heap.size, 7, none⟩ = some (Value.string t) := (blk_cell hno 7).trans rfl; have hcn8 : (W5.setCell ⟨wr.heap.size, 8, none⟩ (.slice A5 ls.length c5)).cell? ⟨wr.heap.size, 8, none⟩ = some ((.slice A5 ls.length c5)) := (blk_cell hno 8).trans rfl; have hcn9 : (W5.setCell ⟨wr.heap.size, 8, none⟩ (.slice A5 ls.length c5)).cell? ⟨wr.heap.size, 9, none⟩ = some (Value.int .u64 0) := (blk_cell hno 9).trans rfl; have HY := Lib.hid (And.intro hkb (And.intro hR5 (And.intro hb5 hno))); clear hkb hR5 hb5 hno hob)
            have hR6 := Kd.R_set HY.out.2.1 ((HY.out.2.2.1.block _ (blk_lt HW.out.1)).trans HW.out.1) (by decide) 8 (.slice A5 ls.length c5)
            refine bodyPost_ret (results_ct rfl _ _ w.heap.size 25 #[Value.int .i64 n0, Value.int .i64 n1, Value.int .i64 n2, Value.int .i64 n3, Value.int .i64 n4, Value.int .i64 n5, Value.string s, Value.string t, (.slice A5 ls.length c5), Value.int .u64 0] (0, 0) _ rfl (blk10 HY.out.1) Tryd.underlying25 rfl (by kernel_rfl)) rfl ?_
            exact ⟨_, rfl, Kd.R_lower (R10 hR6 HY.out.1) HW.out.2.2.1.size, below10 (below_set (below_then HW.out.2.2.1 HW.out.2.2.1.size HY.out.2.2.1) HV.out.2.2.1.size) (Nat.le_refl _)⟩
          · rw [if_neg hel] at hd2
            replace hd2 := Option.some.inj hd2
            unfold decZ at hd2
            simp only [Prod.mk.injEq] at hd2
            obtain ⟨rfl, rfl, rfl, rfl, rfl, rfl, rfl, rfl, rfl, rfl, rfl⟩ := hd2
            have helb : (el != 0) = true := bne_iff_ne.2 hel
            go_wp2_with (go_at_call 48; refine (entry_legs.calls (v.size + 10) v ls el _ (HT.out.below HW.out.2.2.1) HV.out.2.2.2).mono ?_; rintro e5 W5 ⟨v5, rfl, hR5, hb5⟩; obtain ⟨A5, c5, rfl⟩ := Kd.R_slice hR5; have hob := (hb5.block _ (blk_lt HW.out.1)).trans HW.out.1; have hc8 : W5.cell? ⟨wr.heap.size, 8, none⟩ = some (.slice none 0 0) := (blk_cell hob 8).trans rfl; have hf8 := blk_frozen hob 8; have hkb := blk_far ((hb5.block _ (blk_lt HW.out.2.1)).trans HW.out.2.1) (p := ⟨wr.heap.size, 8, none⟩) HW.out.2.2.2 (.slice A5 ls.length c5);  have hcz0 : (W5.setCell ⟨wr.heap.size, 8, none⟩ (.slice A5 ls.length c5)).cell? ⟨w.heap.size, 0, none⟩ = some (.int .i64 0) := (blk_cell hkb 0).trans rfl; have hfz0 := blk_frozen hkb 0; have hcz1 : (W5.setCell ⟨wr.heap.size, 8, none⟩ (.slice A5 ls.length c5)).cell? ⟨w.heap.size, 1, none⟩ = some (.int .i64 0) := (blk_cell hkb 1).trans rfl; have hfz1 := blk_frozen hkb 1; have hcz2 : (W5.setCell ⟨wr.heap.size, 8, none⟩ (.slice A5 ls.length c5)).cell? ⟨w.heap.size, 2, none⟩ = some (.int .i64 0) := (blk_cell hkb 2).trans rfl; have hfz2 := blk_frozen hkb 2; have hcz3 : (W5.setCell ⟨wr.heap.size, 8, none⟩ (.slice A5 ls.length c5)).cell? ⟨w.heap.size, 3, none⟩ = some (.int .i64 0) := (blk_cell hkb 3).trans rfl; have hfz3 := blk_frozen hkb 3; have hcz4 : (W5.setCell ⟨wr.heap.size, 8, none⟩ (.slice A5 ls.length c5)).cell? ⟨w.heap.size, 4, none⟩ = some (.int .i64 0) := (blk_cell hkb 4).trans rfl; have hfz4 := blk_frozen hkb 4; have hcz5 : (W5.setCell ⟨wr.heap.size, 8, none⟩ (.slice A5 ls.length c5)).cell? ⟨w.heap.size, 5, none⟩ = some (.int .i64 0) := (blk_cell hkb 5).trans rfl; have hfz5 := blk_frozen hkb 5; have hcz6 : (W5.setCell ⟨wr.heap.size, 8, none⟩ (.slice A5 ls.length c5)).cell? ⟨w.heap.size, 6, none⟩ = some (.string (⟨#[]⟩ : ByteArray)) := (blk_cell hkb 6).trans rfl; have hfz6 := blk_frozen hkb 6; have hcz7 : (W5.setCell ⟨wr.heap.size, 8, none⟩ (.slice A5 ls.length c5)).cell? ⟨w.heap.size, 7, none⟩ = some (.string (⟨#[]⟩ : ByteArray)) := (blk_cell hkb 7).trans rfl; have hfz7 := blk_frozen hkb 7; have hcz8 : (W5.setCell ⟨wr.heap.size, 8, none⟩ (.slice A5 ls.length c5)).cell? ⟨w.heap.size, 8, none⟩ = some (.slice none 0 0) := (blk_cell hkb 8).trans rfl; have hfz8 := blk_frozen hkb 8; have hcz9 : (W5.setCell ⟨wr.heap.size, 8, none⟩ (.slice A5 ls.length c5)).cell? ⟨w.heap.size, 9, none⟩ = some (.int .u64 0) := (blk_cell hkb 9).trans rfl; have hfz9 := blk_frozen hkb 9; have HY := Lib.hid (And.intro hkb (And.intro hR5 hb5)); clear hkb hR5 hb5 hob)
            refine bodyPost_ret (results_ct rfl _ _ w.heap.size 25 #[.int .i64 0, .int .i64 0, .int .i64 0, .int .i64 0, .int .i64 0, .int .i64 0, .string (⟨#[]⟩ : ByteArray), .string (⟨#[]⟩ : ByteArray), .slice none 0 0, .int .u64 0] (0, 0) _ rfl (blk10 HY.out.1) Tryd.underlying25 rfl (by kernel_rfl)) rfl ?_
            exact ⟨_, rfl, Kd.R_nil _ _ _ _ _, below10 (below_set (below_then HW.out.2.2.1 HW.out.2.2.1.size HY.out.2.2) HV.out.2.2.1.size) (Nat.le_refl _)⟩
end Go.Proofs.YtkfgnjdchnpjeaaDoor

