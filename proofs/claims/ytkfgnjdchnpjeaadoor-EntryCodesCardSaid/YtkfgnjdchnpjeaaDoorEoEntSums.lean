/- EntSums: what the law EntryCodes asks of it. -/
import Derived.Test.YtkfgnjdchnpjeaaDoorEoEntCmp
import Derived.Test.YtkfgnjdchnpjeaaDoorEoBsfT
import Derived.Deep.RegionHeld3
namespace Go.Proofs.YtkfgnjdchnpjeaaDoor
open Go Go.RowKit Go.Shelf Go.Lib Go.Proofs.YtkfgnjdchnpjeaaDoor.QD Go.Proofs.YtkfgnjdchnpjeaaDoorW.PrintWords
set_option linter.unusedVariables false
set_option linter.unusedSimpArgs false

/-- A leg's amount added to the sum of its currency. -/
def addY (o : List S44) (x : S46) : List S44 := addR cfY mkY put1Y x.f2 (wrap64 (0 + x.f1)) (fun y => wrap64 (y.f1 + x.f1)) o
def sumsS (l : List S46) : List S44 := l.foldl addY []
def entry_Sums.f (l0 : List S46) : Option (List S44) := if l0.length ≤ 100000 then some (sumsS l0) else none
theorem take_rdL (l : List S46) (i : Nat) (hi : i < l.length) : l.take (i + 1) = l.take i ++ [rd_T46 l (i : Int)] := by
  rw [List.take_add_one, List.getElem?_eq_getElem hi]
  unfold rd_T46
  rw [List.getD_eq_getElem?_getD, Int.toNat_natCast, List.getElem?_eq_getElem hi]
  rfl
theorem sumsS_succ (l : List S46) (i : Nat) (hi : i < l.length) : sumsS (l.take (i + 1)) = addY (sumsS (l.take i)) (rd_T46 l (i : Int)) := by
  rw [take_rdL l i hi]
  unfold sumsS
  rw [List.foldl_append, List.foldl_cons, List.foldl_nil]
theorem sumsF_sorted : ∀ (l : List S46) (o : List S44), sortedK cfY (fun y => y.f0) o → sortedK cfY (fun y => y.f0) (l.foldl addY o)
  | [], o, h => h
  | x :: r, o, h => by
    rw [List.foldl_cons]
    exact sumsF_sorted r _ (addR_sorted ordY _ _ _ o h)
theorem sumsS_sorted (l : List S46) : sortedK cfY (fun y => y.f0) (sumsS l) := sumsF_sorted l [] (by simp [sortedK])
theorem sumsF_len : ∀ (l : List S46) (o : List S44), (l.foldl addY o).length ≤ o.length + l.length
  | [], o => by simp
  | x :: r, o => by
    rw [List.foldl_cons]
    have h1 := sumsF_len r (addY o x)
    have h2 : (addY o x).length ≤ o.length + 1 := addR_len _ _ _ o
    simp only [List.length_cons]
    omega
theorem sumsS_len (l : List S46) : (sumsS l).length ≤ l.length := by
  have := sumsF_len l []
  simpa [sumsS] using this
theorem sums1_calls (W : World) (y : S44) (s : ByteArray) : Calls Tryd.prog 38 #[.agg #[.string y.f0, .int .i64 y.f1], .string s] W fun e w' => e = .returned (.int .i64 (cfY y s)) ∧ Below W.heap.size W w' := by
  have hu := Tryd.underlying44
  go_enter Tryd.func38, Tryd.ntmps38
  go_wp2_with (go_at_call 39; refine (QB.cmp_Compare_string.calls y.f0 s _ _ (cmpT_f y.f0 s)).mono ?_; rintro e' w' ⟨rfl, ⟨nd, rfl⟩⟩)
  go_ret
  have hb := below_alloc (Below.refl W.heap.size W) (.cells #[.string y.f0, .int .i64 y.f1] 44)
  exact ⟨rfl, ⟨hb.os, hb.tape, hb.output, hb.size, hb.block⟩⟩
theorem eg_sums1 : ∀ args w, (callFunc 38 args).run Tryd.prog w = .ok (.enter 38 args) w := enters_of Tryd.func38 (by kernel_rfl) rfl
/-- The place found in a row of sums. -/
theorem place_Y (A : Option Addr) (c : Nat) (o : List S44) (s : ByteArray) (w : World) (hC : Kd.C k44 w A o.length o) (hl : o.length ≤ 1000000) (hs : sortedK cfY (fun y => y.f0) o) :
    Calls Tryd.prog 37 #[.slice A o.length c, .string s, .func (.func 38) #[] #[]] w fun e w' =>
      e = .returned (.tuple #[.int .i64 (cntY (fun y => cfY y s) o : Nat), .bool (decide (cntY (fun y => cfY y s) o < o.length) && decide (cfY (rd_T44 o (cntY (fun y => cfY y s) o : Nat)) s = 0))]) ∧ Below w.heap.size w w' :=
  bsf_Y A c o (.string s) (fun y => cfY y s) 38 #[] eg_sums1 w hC hl (fun W y _ => by simpa using sums1_calls W y s) (fun a b hab hb h => by
    have := sorted_mono ordY z44 s hs a b hab hb (by have h' := h; unfold rd_T44 at h'; rw [Int.toNat_natCast] at h'; exact h')
    unfold rd_T44
    rw [Int.toNat_natCast]
    exact this)
theorem cntY_le (f : S44 → Int) (o : List S44) : cntY f o ≤ o.length := List.countP_le_length
theorem addY_true {o : List S44} {x : S46} {kk : Nat} (hs : sortedK cfY (fun y => y.f0) o) (hk : cntY (fun y => cfY y x.f2) o = kk) (h : (decide (kk < o.length) && decide (cfY (rd_T44 o (kk : Nat)) x.f2 = 0)) = true) :
    addY o x = o.set kk (put1Y (rd_T44 o (kk : Nat)) (wrap64 ((rd_T44 o (kk : Nat)).f1 + x.f1))) := by
  unfold addY
  rw [addR_eq ordY z44 _ _ _ o hs]
  have e : ∀ n : Nat, rd_T44 o (n : Nat) = o.getD n z44 := fun n => by unfold rd_T44; rw [Int.toNat_natCast]
  rw [e] at h ⊢
  subst hk
  exact if_pos h
theorem addY_false {o : List S44} {x : S46} {kk : Nat} (hs : sortedK cfY (fun y => y.f0) o) (hk : cntY (fun y => cfY y x.f2) o = kk) (h : (decide (kk < o.length) && decide (cfY (rd_T44 o (kk : Nat)) x.f2 = 0)) = false) :
    addY o x = o.take kk ++ (⟨x.f2, wrap64 (0 + x.f1)⟩ : S44) :: o.drop kk := by
  unfold addY
  rw [addR_eq ordY z44 _ _ _ o hs]
  have e : ∀ n : Nat, rd_T44 o (n : Nat) = o.getD n z44 := fun n => by unfold rd_T44; rw [Int.toNat_natCast]
  rw [e] at h
  subst hk
  exact if_neg (by rw [Bool.not_eq_true]; exact h)
theorem insY {o : List S44} {s : ByteArray} {kk : Nat} (hkl : kk ≤ o.length) (v u : Int) :
    kk < (o.take kk ++ (⟨s, v⟩ : S44) :: o.drop kk).length ∧ rd_T44 (o.take kk ++ (⟨s, v⟩ : S44) :: o.drop kk) (kk : Nat) = ⟨s, v⟩ ∧
    (o.take kk ++ (⟨s, v⟩ : S44) :: o.drop kk).set kk (put1Y ⟨s, v⟩ u) = o.take kk ++ (⟨s, u⟩ : S44) :: o.drop kk := by
  have hl : (o.take kk).length = kk := by rw [List.length_take]; omega
  refine ⟨by simp <;> omega, ?_, ?_⟩
  · unfold rd_T44
    rw [Int.toNat_natCast, List.getD_eq_getElem?_getD, List.getElem?_append_right (by omega), hl, Nat.sub_self]
    rfl
  · rw [List.set_append_right _ _ (by omega), hl, Nat.sub_self]
    rfl
theorem R_ne_Y {w : World} {base g c q : Nat} {ok : Nat → Prop} {l : List S44} {t : TypeId} {cs : Array Value} (hR : Kd.R k44 44 w base ok (.slice (some ⟨g, 0, none⟩) l.length c) l) (hl : 0 < l.length) (hq : w.heap[q]? = some (.cells cs t (0, 0))) (ht : t ≠ 44) : g ≠ q := by
  obtain ⟨h0, inner, ho, hr⟩ := hR
  obtain ⟨hil, hor⟩ := ho
  rcases hor with ⟨hnil, hz⟩ | ⟨b, cap, cur, he, hbase, hheap, hnc, hcap, hsz, htake⟩
  · omega
  injection he with e1 e2 e3
  injection e1 with e1
  injection e1 with e1
  rintro rfl
  rw [← e1, hq] at hheap
  injection hheap with h
  injection h with h1 h2
  exact ht h2
set_option maxHeartbeats 4000000 in
set_option maxRecDepth 100000 in
theorem entry_Sums.calls (A0 : Option Addr) (c0 : Nat) (l0 : List S46) (r : List S44) (w : World) (hr0 : Kd.C k46 w A0 l0.length l0) (hc0 : l0.length ≤ c0) (h : entry_Sums.f l0 = some r) :
    Calls Tryd.prog 15 #[.slice A0 l0.length c0] w fun e w' => ∃ v0_ : Value, e = .returned (v0_) ∧ Kd.R k44 44 w' w.heap.size (fun _ => True) v0_ r ∧ Below w.heap.size w w' := by
  unfold entry_Sums.f at h
  split at h
  case isFalse => cases h
  case isTrue hlim =>
  obtain rfl := Option.some.inj h
  clear h
  have hu := Tryd.underlying46
  have hum := Tryd.underlying44
  have HR := Lib.hid hr0
  clear hr0
  go_enter Tryd.func15, Tryd.ntmps15
  go_wp2
  go_loopw [3, 10] (fun v3 v10 wr => ∃ i : Nat, v10 = .int .i64 i ∧ Hid (i ≤ l0.length ∧ Kd.R k44 44 wr w.heap.size (fun _ => True) v3 (sumsS (l0.take i)) ∧ Below w.heap.size w wr)) (fun _ v10 _ => l0.length - (RowKit.intOf v10).toNat)
  case atStart => exact ⟨0, rfl, Lib.hid ⟨by omega, by simp [sumsS]; exact Kd.R_nil _ _ _ _ _, Below.refl _ _⟩⟩
  case round =>
    obtain ⟨i, rfl, hh⟩ := hrel
    obtain ⟨hil, hR, hb⟩ := hh.out
    clear hh
    obtain ⟨o, ho⟩ : ∃ o, sumsS (l0.take i) = o := ⟨_, rfl⟩
    have hos := sumsS_sorted (l0.take i)
    have hol := sumsS_len (l0.take i)
    rw [List.length_take] at hol
    rw [ho] at hR hos hol
    obtain ⟨A3, c3, rfl⟩ := Kd.R_slice hR
    have HB := Lib.hid hb
    clear hb
    by_cases hlt : i < l0.length
    · have hsucc := sumsS_succ l0 i hlt
      rw [ho] at hsucc
      obtain ⟨ad, ead, hx0, hx1, hx2⟩ := at_T46 (Kd.C_below HR.out HB.out) (i : Int) (by omega) (by omega)
      obtain ⟨x, hx⟩ : ∃ x, rd_T46 l0 (i : Int) = x := ⟨_, rfl⟩
      rw [hx] at hx0 hx1 hx2 hsucc
      rw [Int.toNat_natCast] at hx0 hx1 hx2
      cases ead
      have hi0 : (0 : Int) ≤ (i : Int) := by omega
      have hi1 : (i : Int) < (l0.length : Int) := by omega
      have hw1 : IntKind.i64.wrap ((i : Int) + 1) = (i : Int) + 1 := by rw [IntKind.wrap_i64]; omega
      have HS := Lib.hid (And.intro hsucc (And.intro hos (show o.length ≤ 1000000 by omega)))
      have HO := Lib.hid hR
      clear hsucc hos hR hx ho hol
      obtain ⟨kk, hkk⟩ : ∃ kk, cntY (fun y => cfY y x.f2) o = kk := ⟨_, rfl⟩
      have hkl : kk ≤ o.length := by rw [← hkk]; exact cntY_le _ _
      obtain ⟨fd, hfd⟩ : ∃ fd, (decide (kk < o.length) && decide (cfY (rd_T44 o (kk : Nat)) x.f2 = 0)) = fd := ⟨_, rfl⟩
      have HK := Lib.hid (And.intro hkk (And.intro hkl hfd))
      cases fd with
      | true =>
        clear hkk hkl hfd
        go_wp2_with (first
          | (go_at_call 37; go_loud (refine (place_Y A3 c3 o x.f2 _ (Kd.C_below (Kd.R_reads' HO.out).2.2 (below_alloc (Below.refl _ _) _)) HS.out.2.2 HS.out.2.1).mono ?_; rintro e' w2 ⟨he2, hb_⟩; rw [HK.out.1, HK.out.2.2] at he2; subst he2; have hb2 := below_then (below_alloc (Below.refl wr.heap.size wr) _) (by rw [World.size_alloc]; omega) hb_; have hX := (hb_.block wr.heap.size (by rw [World.size_alloc]; omega)).trans (heap_alloc_new wr _); have hxc2 : w2.cell? ⟨wr.heap.size, 2, none⟩ = some (.string x.f2) := (blk_cell hX 2).trans rfl; have HX := Lib.hid (And.intro hX hb2); clear hX hb_ hb2)))
        have HKL0 : kk < o.length := by
          have := HK.out.2.2
          simp only [Bool.and_eq_true, decide_eq_true_eq] at this
          exact this.1
        have NE0 : ∀ g, some g = (Value.slice A3 o.length c3).ownBlock → g ≠ wr.heap.size := fun g hg => Nat.ne_of_lt (Kd.R_lt HO.out g hg.symm)
        obtain ⟨g, eg, hg1, hg2, hcell, hfz, hput⟩ := R_put_Y (Kd.R_below HO.out HX.out.2) kk HKL0
        cases eg
        have hk0 : (0 : Int) ≤ (kk : Int) := by omega
        have hk1 : (kk : Int) < (o.length : Int) := by omega
        have hne : g ≠ wr.heap.size := NE0 g rfl
        have hxc : w2.cell? ⟨wr.heap.size, 1, none⟩ = some (.int .i64 x.f1) := (blk_cell HX.out.1 1).trans rfl
        have HP := Lib.hid (And.intro hput (And.intro hg1 hg2))
        clear hput hg1 hg2
        go_region
        go_wp2
        refine ⟨⟨i + 1, ?_, Lib.hid ⟨by omega, ?_, (below_set (below_then HB.out HB.out.size HX.out.2) HP.out.2.1).drew⟩⟩, ?_⟩
        · rw [show ((i : Int) + 1) = ((i + 1 : Nat) : Int) by omega]
        · rw [HS.out.1, addY_true HS.out.2.1 HK.out.1 HK.out.2.2, show (Value.slice (some ⟨g, 0, none⟩) o.length c3) = (Value.slice (some ⟨g, 0, none⟩) (o.set kk (put1Y (rd_T44 o (kk : Nat)) (wrap64 ((rd_T44 o (kk : Nat)).f1 + x.f1)))).length c3) by rw [List.length_set]]
          rw [List.length_set]
          exact Kd.R_below (HP.out.1 _) (Below.refl _ _).drew
        · show l0.length - ((i : Int) + 1).toNat < l0.length - (i : Int).toNat
          omega
      | false =>
        clear hfd
        go_wp2_with (first
          | (go_at_call 37; go_loud (refine (place_Y A3 c3 o x.f2 _ (Kd.C_below (Kd.R_reads' HO.out).2.2 (below_alloc (Below.refl _ _) _)) HS.out.2.2 HS.out.2.1).mono ?_; rintro e' w2 ⟨he2, hb_⟩; rw [HK.out.1, HK.out.2.2] at he2; subst he2; have hb2 := below_then (below_alloc (Below.refl wr.heap.size wr) _) (by rw [World.size_alloc]; omega) hb_; have hX := (hb_.block wr.heap.size (by rw [World.size_alloc]; omega)).trans (heap_alloc_new wr _); have hxc2 : w2.cell? ⟨wr.heap.size, 2, none⟩ = some (.string x.f2) := (blk_cell hX 2).trans rfl; have HX := Lib.hid (And.intro hX hb2); clear hX hb_ hb2)) | (go_at_call 40; go_loud (refine (ins_calls_Y ⟨x.f2, 0⟩ w2.heap.size kk o A3 c3 w _ (Kd.R_below HO.out (below_alloc HX.out.2 _)) (heap_alloc_new w2 _) (fun a ha e => by have h1 := Kd.R_lt HO.out a.block (by rw [ha]; rfl); have h2 := HX.out.2.size; omega) (below_alloc (below_then HB.out HB.out.size HX.out.2) _) HS.out.2.2 HK.out.2.1).mono ?_; rintro e' w3 ⟨v3, rfl, hR3, hb3, hfr⟩; have hX3 := (hfr wr.heap.size (by have := HX.out.2.size; have := blk_lt HX.out.1; rw [World.size_alloc]; omega) (fun e => Nat.lt_irrefl _ (Kd.R_lt HO.out _ e.symm))).trans ((heap_alloc_other_ w2 _ (blk_lt HX.out.1)).trans HX.out.1); have HX3 := Lib.hid hX3; have HY := Lib.hid (And.intro hR3 hb3); clear hR3 hb3 hfr hX3; obtain ⟨A5, c5, ev5⟩ := Kd.R_slice HY.out.1; subst ev5)))
        obtain ⟨q1, q2, q3⟩ := insY (s := x.f2) HK.out.2.1 0 (wrap64 (0 + x.f1))
        have HA := Lib.hid (And.intro (HS.out.1.trans (addY_false HS.out.2.1 HK.out.1 HK.out.2.2)) q3)
        clear q3
        obtain ⟨o2, ho2⟩ : ∃ o2, o.take kk ++ (⟨x.f2, 0⟩ : S44) :: o.drop kk = o2 := ⟨_, rfl⟩
        rw [ho2] at HY HA q1 q2
        obtain ⟨g, eg, hg1, hg2, hcell, hfz, hput⟩ := R_put_Y HY.out.1 kk q1
        cases eg
        have hne : g ≠ wr.heap.size := R_ne_Y HY.out.1 (by omega) HX3.out (by decide)
        have hk0 : (0 : Int) ≤ (kk : Int) := by omega
        have hk1 : (kk : Int) < (o2.length : Int) := by omega
        have hxc : w3.cell? ⟨wr.heap.size, 1, none⟩ = some (.int .i64 x.f1) := (blk_cell HX3.out 1).trans rfl
        rw [q2] at hcell hput
        have hcell' : w3.cell? ⟨g, kk * 2 + 1, none⟩ = some (.int .i64 0) := hcell
        have HP := Lib.hid (And.intro hput (And.intro hg1 hg2))
        clear hput hg1 hg2 hcell q2 hxc2
        go_region
        go_wp2
        refine ⟨⟨i + 1, ?_, Lib.hid ⟨by omega, ?_, (below_set HY.out.2 HP.out.2.1).drew⟩⟩, ?_⟩
        · rw [show ((i : Int) + 1) = ((i + 1 : Nat) : Int) by omega]
        · have e5 : kk + (o.length - kk + 1) = (o2.set kk (put1Y ⟨x.f2, 0⟩ (wrap64 (0 + x.f1)))).length := by
            rw [List.length_set, ← ho2, List.length_append, List.length_take, List.length_cons, List.length_drop]
            have := HK.out.2.1
            omega
          have h6 := HP.out.1 (wrap64 (0 + x.f1))
          rw [← List.length_set (i := kk) (a := put1Y ⟨x.f2, 0⟩ (wrap64 (0 + x.f1)))] at h6
          rw [e5, HA.out.1, ← HA.out.2]
          rw [show wrap64 x.f1 = wrap64 (0 + x.f1) by rw [Int.zero_add]]
          exact Kd.R_below h6 (Below.refl _ _).drew
        · show l0.length - ((i : Int) + 1).toNat < l0.length - (i : Int).toNat
          omega
    · have hi : i = l0.length := by omega
      subst hi
      rw [List.take_length] at ho
      subst ho
      have hge : ¬ ((l0.length : Int) < (l0.length : Int)) := by omega
      go_wp2
      go_ret
      exact ⟨_, rfl, hR, HB.out⟩
end Go.Proofs.YtkfgnjdchnpjeaaDoor

