/- EntNet: what the law EntryCodes asks of it. -/
import Derived.Test.YtkfgnjdchnpjeaaDoorEoEntSums
import Derived.Test.YtkfgnjdchnpjeaaDoorEoBsfT
namespace Go.Proofs.YtkfgnjdchnpjeaaDoor
open Go Go.RowKit Go.Shelf Go.Lib Go.Proofs.YtkfgnjdchnpjeaaDoor.QD Go.Proofs.YtkfgnjdchnpjeaaDoorW.PrintWords
set_option linter.unusedVariables false
set_option linter.unusedSimpArgs false

/-- A leg's amount added to that of its account and currency. -/
def addL (o : List S46) (x : S46) : List S46 := addR cmpL mkL put1L (keyL x) x.f1 (fun y => wrap64 (y.f1 + x.f1)) o
def collS (l : List S46) : List S46 := l.foldl addL []
theorem collS_succ (l : List S46) (i : Nat) (hi : i < l.length) : collS (l.take (i + 1)) = addL (collS (l.take i)) (rd_T46 l (i : Int)) := by
  rw [take_rdL l i hi]
  unfold collS
  rw [List.foldl_append, List.foldl_cons, List.foldl_nil]
theorem collF_sorted : ∀ (l : List S46) (o : List S46), sortedK cmpL keyL o → sortedK cmpL keyL (l.foldl addL o)
  | [], o, h => h
  | x :: r, o, h => by
    rw [List.foldl_cons]
    exact collF_sorted r _ (addR_sorted ordL _ _ _ o h)
theorem collS_sorted (l : List S46) : sortedK cmpL keyL (collS l) := collF_sorted l [] (by simp [sortedK])
theorem collF_len : ∀ (l : List S46) (o : List S46), (l.foldl addL o).length ≤ o.length + l.length
  | [], o => by simp
  | x :: r, o => by
    rw [List.foldl_cons]
    have h1 := collF_len r (addL o x)
    have h2 : (addL o x).length ≤ o.length + 1 := addR_len _ _ _ o
    simp only [List.length_cons]
    omega
theorem collS_len (l : List S46) : (collS l).length ≤ l.length := by
  have := collF_len l []
  simpa [collS] using this
theorem eg_cmp : ∀ args w, (callFunc 62 args).run Tryd.prog w = .ok (.enter 62 args) w := enters_of Tryd.func62 (by kernel_rfl) rfl
/-- The place found in a row of legs. -/
theorem place_L (A : Option Addr) (c : Nat) (o : List S46) (x : S46) (w : World) (hC : Kd.C k46 w A o.length o) (hl : o.length ≤ 1000000) (hs : sortedK cmpL keyL o) :
    Calls Tryd.prog 61 #[.slice A o.length c, .agg #[.int .i64 x.f0, .int .i64 x.f1, .string x.f2], .func (.func 62) #[] #[]] w fun e w' =>
      e = .returned (.tuple #[.int .i64 (cntL (fun y => cmpL y (keyL x)) o : Nat), .bool (decide (cntL (fun y => cmpL y (keyL x)) o < o.length) && decide (cmpL (rd_T46 o (cntL (fun y => cmpL y (keyL x)) o : Nat)) (keyL x) = 0))]) ∧ Below w.heap.size w w' :=
  bsf_L A c o x (fun y => cmpL y (keyL x)) 62 #[] eg_cmp w hC hl (fun W y _ => QB.entry_compare.calls 4 y.f0 y.f1 y.f2 x.f0 x.f1 x.f2 _ W (cmpL_f y x)) (fun a b hab hb h => by
    have := sorted_mono ordL z46 (keyL x) hs a b hab hb (by have h' := h; unfold rd_T46 at h'; rw [Int.toNat_natCast] at h'; exact h')
    unfold rd_T46
    rw [Int.toNat_natCast]
    exact this)
theorem cntL_le (f : S46 → Int) (o : List S46) : cntL f o ≤ o.length := List.countP_le_length
theorem addL_true {o : List S46} {x : S46} {kk : Nat} (hs : sortedK cmpL keyL o) (hk : cntL (fun y => cmpL y (keyL x)) o = kk) (h : (decide (kk < o.length) && decide (cmpL (rd_T46 o (kk : Nat)) (keyL x) = 0)) = true) :
    addL o x = o.set kk (put1L (rd_T46 o (kk : Nat)) (wrap64 ((rd_T46 o (kk : Nat)).f1 + x.f1))) := by
  unfold addL
  rw [addR_eq ordL z46 _ _ _ o hs]
  have e : ∀ n : Nat, rd_T46 o (n : Nat) = o.getD n z46 := fun n => by unfold rd_T46; rw [Int.toNat_natCast]
  rw [e] at h ⊢
  subst hk
  exact if_pos h
theorem addL_false {o : List S46} {x : S46} {kk : Nat} (hs : sortedK cmpL keyL o) (hk : cntL (fun y => cmpL y (keyL x)) o = kk) (h : (decide (kk < o.length) && decide (cmpL (rd_T46 o (kk : Nat)) (keyL x) = 0)) = false) :
    addL o x = o.take kk ++ x :: o.drop kk := by
  unfold addL
  rw [addR_eq ordL z46 _ _ _ o hs]
  have e : ∀ n : Nat, rd_T46 o (n : Nat) = o.getD n z46 := fun n => by unfold rd_T46; rw [Int.toNat_natCast]
  rw [e] at h
  subst hk
  exact if_neg (by rw [Bool.not_eq_true]; exact h)
set_option maxHeartbeats 4000000 in
set_option maxRecDepth 100000 in
theorem entry_collect.calls (A0 : Option Addr) (c0 : Nat) (l0 : List S46) (w : World) (hr0 : Kd.C k46 w A0 l0.length l0) (hlim : l0.length ≤ 100000) :
    Calls Tryd.prog 41 #[.slice none 0 0, .slice A0 l0.length c0] w fun e w' => ∃ v0_ : Value, e = .returned (v0_) ∧ Kd.R k46 46 w' w.heap.size (fun _ => True) v0_ (collS l0) ∧ Below w.heap.size w w' := by
  have hu := Tryd.underlying46
  have HR := Lib.hid hr0
  clear hr0
  go_enter Tryd.func41, Tryd.ntmps41
  go_wp2
  go_loopw [0, 11] (fun v0 v11 wr => ∃ i : Nat, v11 = .int .i64 i ∧ Hid (i ≤ l0.length ∧ Kd.R k46 46 wr w.heap.size (fun _ => True) v0 (collS (l0.take i)) ∧ Below w.heap.size w wr)) (fun _ v11 _ => l0.length - (RowKit.intOf v11).toNat)
  case atStart => exact ⟨0, rfl, Lib.hid ⟨by omega, by simp [collS]; exact Kd.R_nil _ _ _ _ _, Below.refl _ _⟩⟩
  case round =>
    obtain ⟨i, rfl, hh⟩ := hrel
    obtain ⟨hil, hR, hb⟩ := hh.out
    clear hh
    obtain ⟨o, ho⟩ : ∃ o, collS (l0.take i) = o := ⟨_, rfl⟩
    have hos := collS_sorted (l0.take i)
    have hol := collS_len (l0.take i)
    rw [List.length_take] at hol
    rw [ho] at hR hos hol
    obtain ⟨A3, c3, rfl⟩ := Kd.R_slice hR
    have HB := Lib.hid hb
    clear hb
    by_cases hlt : i < l0.length
    · have hsucc := collS_succ l0 i hlt
      rw [ho] at hsucc
      obtain ⟨ad, ead, hx0, hx1, hx2⟩ := at_T46 (Kd.C_below HR.out HB.out) (i : Int) (by omega) (by omega)
      obtain ⟨x, hx⟩ : ∃ x, rd_T46 l0 (i : Int) = x := ⟨_, rfl⟩
      rw [hx] at hx0 hx1 hx2 hsucc
      rw [Int.toNat_natCast] at hx0 hx1 hx2
      cases ead
      have hi0 : (0 : Int) ≤ (i : Int) := by omega
      have hi1 : (i : Int) < (l0.length : Int) := by omega
      have hw1 : IntKind.i64.wrap ((i : Int) + 1) = (i : Int) + 1 := by rw [IntKind.wrap_i64]; omega
      have HS := Lib.hid (And.intro hsucc (And.intro hos (show o.length ≤ 1000000 by omega)))
      have HO := Lib.hid hR
      clear hsucc hos hR hx ho hol
      obtain ⟨kk, hkk⟩ : ∃ kk, cntL (fun y => cmpL y (keyL x)) o = kk := ⟨_, rfl⟩
      have hkl : kk ≤ o.length := by rw [← hkk]; exact cntL_le _ _
      obtain ⟨fd, hfd⟩ : ∃ fd, (decide (kk < o.length) && decide (cmpL (rd_T46 o (kk : Nat)) (keyL x) = 0)) = fd := ⟨_, rfl⟩
      have HK := Lib.hid (And.intro hkk (And.intro hkl hfd))
      cases fd with
      | true =>
        clear hkk hkl hfd
        go_wp2_with (first
          | (go_at_call 61; go_loud (refine (place_L A3 c3 o x _ (Kd.C_below (Kd.R_reads' HO.out).2.2 (below_alloc (Below.refl _ _) _)) HS.out.2.2 HS.out.2.1).mono ?_; rintro e' w2 ⟨he2, hb_⟩; rw [HK.out.1, HK.out.2.2] at he2; subst he2; have hb2 := below_then (below_alloc (Below.refl wr.heap.size wr) _) (by rw [World.size_alloc]; omega) hb_; have hX := (hb_.block wr.heap.size (by rw [World.size_alloc]; omega)).trans (heap_alloc_new wr _); have hxc0 : w2.cell? ⟨wr.heap.size, 0, none⟩ = some (.int .i64 x.f0) := (blk_cell hX 0).trans rfl; have hxc1 : w2.cell? ⟨wr.heap.size, 1, none⟩ = some (.int .i64 x.f1) := (blk_cell hX 1).trans rfl; have hxc2 : w2.cell? ⟨wr.heap.size, 2, none⟩ = some (.string x.f2) := (blk_cell hX 2).trans rfl; have HX := Lib.hid (And.intro hX hb2); clear hX hb_ hb2)))
        have Hk460 : kk < o.length := by
          have := HK.out.2.2
          simp only [Bool.and_eq_true, decide_eq_true_eq] at this
          exact this.1
        have NE0 : ∀ g, some g = (Value.slice A3 o.length c3).ownBlock → g ≠ wr.heap.size := fun g hg => Nat.ne_of_lt (Kd.R_lt HO.out g hg.symm)
        obtain ⟨g, eg, hg1, hg2, hcell, hfz, hput⟩ := R_put_L (Kd.R_below HO.out HX.out.2) kk Hk460
        cases eg
        have hk0 : (0 : Int) ≤ (kk : Int) := by omega
        have hk1 : (kk : Int) < (o.length : Int) := by omega
        have hne : g ≠ wr.heap.size := NE0 g rfl
        have hxc : w2.cell? ⟨wr.heap.size, 1, none⟩ = some (.int .i64 x.f1) := (blk_cell HX.out.1 1).trans rfl
        have HP := Lib.hid (And.intro hput (And.intro hg1 hg2))
        clear hput hg1 hg2 hxc0 hxc2
        go_region
        go_wp2
        refine ⟨⟨i + 1, ?_, Lib.hid ⟨by omega, ?_, (below_set (below_then HB.out HB.out.size HX.out.2) HP.out.2.1).drew⟩⟩, ?_⟩
        · rw [show ((i : Int) + 1) = ((i + 1 : Nat) : Int) by omega]
        · rw [HS.out.1, addL_true HS.out.2.1 HK.out.1 HK.out.2.2, show (Value.slice (some ⟨g, 0, none⟩) o.length c3) = (Value.slice (some ⟨g, 0, none⟩) (o.set kk (put1L (rd_T46 o (kk : Nat)) (wrap64 ((rd_T46 o (kk : Nat)).f1 + x.f1)))).length c3) by rw [List.length_set]]
          rw [List.length_set]
          exact Kd.R_below (HP.out.1 _) (Below.refl _ _).drew
        · show l0.length - ((i : Int) + 1).toNat < l0.length - (i : Int).toNat
          omega
      | false =>
        clear hfd
        go_wp2_with (first
          | (go_at_call 61; go_loud (refine (place_L A3 c3 o x _ (Kd.C_below (Kd.R_reads' HO.out).2.2 (below_alloc (Below.refl _ _) _)) HS.out.2.2 HS.out.2.1).mono ?_; rintro e' w2 ⟨he2, hb_⟩; rw [HK.out.1, HK.out.2.2] at he2; subst he2; have hb2 := below_then (below_alloc (Below.refl wr.heap.size wr) _) (by rw [World.size_alloc]; omega) hb_; have hX := (hb_.block wr.heap.size (by rw [World.size_alloc]; omega)).trans (heap_alloc_new wr _); have hxc0 : w2.cell? ⟨wr.heap.size, 0, none⟩ = some (.int .i64 x.f0) := (blk_cell hX 0).trans rfl; have hxc1 : w2.cell? ⟨wr.heap.size, 1, none⟩ = some (.int .i64 x.f1) := (blk_cell hX 1).trans rfl; have hxc2 : w2.cell? ⟨wr.heap.size, 2, none⟩ = some (.string x.f2) := (blk_cell hX 2).trans rfl; have HX := Lib.hid (And.intro hX hb2); clear hX hb_ hb2))
          | (go_at_call 63; go_loud (refine (ins_calls_L x w2.heap.size kk o A3 c3 w _ (Kd.R_below HO.out (below_alloc HX.out.2 _)) (heap_alloc_new w2 _) (fun a ha e => by have h1 := Kd.R_lt HO.out a.block (by rw [ha]; rfl); have h2 := HX.out.2.size; omega) (below_alloc (below_then HB.out HB.out.size HX.out.2) _) HS.out.2.2 HK.out.2.1).mono ?_; rintro e' w3 ⟨v3, rfl, hR3, hb3, hfr⟩; have HY := Lib.hid (And.intro hR3 hb3); clear hR3 hb3 hfr)))
        refine ⟨⟨i + 1, ?_, Lib.hid ⟨by omega, ?_, HY.out.2⟩⟩, ?_⟩
        · rw [show ((i : Int) + 1) = ((i + 1 : Nat) : Int) by omega]
        · rw [HS.out.1, addL_false HS.out.2.1 HK.out.1 HK.out.2.2]
          exact HY.out.1
        · show l0.length - ((i : Int) + 1).toNat < l0.length - (i : Int).toNat
          omega
    · have hi : i = l0.length := by omega
      subst hi
      rw [List.take_length] at ho
      subst ho
      have hge : ¬ ((l0.length : Int) < (l0.length : Int)) := by omega
      go_wp2
      go_ret
      exact ⟨_, rfl, hR, HB.out⟩
end Go.Proofs.YtkfgnjdchnpjeaaDoor

