/- MsgMiss: what the law MessageOnce asks of it. -/
import Derived.Test.YthmlibimhdeocaaDoorOnMsgRecv
import Derived.Test.YthmlibimhdeocaaDoorOnMapSet
namespace Go.Proofs.YthmlibimhdeocaaDoor
open Go.RowKit Go.Shelf Go.Lib Go.Proofs.YthmlibimhdeocaaDoor.QD Go.Proofs.YthmlibimhdeocaaDoorW.PrintWords Go.Proofs.YthmlibimhdeocaaDoorW.PrintMore
attribute [local go_sem] max2_int min2_int max_two min_two
set_option linter.unusedVariables false
set_option linter.unusedSimpArgs false

def isS (s : ByteArray) (m : S23) : Bool := m.f0.toList == s.toList
/-- The greatest number of a sender. -/
def grtM (s : ByteArray) (l : List S23) : Int := l.foldl (fun g m => if isS s m = true then (if g < m.f1 then m.f1 else g) else g) 0
def lastM (s : ByteArray) (l : List S23) : Int := if 4096 + (l.length : Int) < grtM s l then 4096 + (l.length : Int) else grtM s l
/-- 1, 2, .., n. -/
def iota (n : Nat) : List Int := (List.range n).map fun (k : Nat) => (k : Int) + 1
def hasM (s : ByteArray) (l : List S23) (x : Int) : Bool := l.any fun m => isS s m && m.f1 == x
def message_Missing.f (l0 : List S23) (a1 : ByteArray) : Option (List Int) :=
  if l0.length ≤ 1000000 ∧ ∀ m ∈ l0, -9223372036854775808 ≤ m.f1 ∧ m.f1 ≤ 9223372036854775807 then some (((iota (lastM a1 l0).toNat).filter fun x => !(hasM a1 l0 x)).take 4096) else none
theorem iota_succ (n : Nat) : iota (n + 1) = iota n ++ [(n : Int) + 1] := by simp [iota, List.range_succ]
theorem iota_mem {n : Nat} {x : Int} : x ∈ iota n ↔ 1 ≤ x ∧ x ≤ n := by
  unfold iota
  simp only [List.mem_map, List.mem_range]
  constructor
  · rintro ⟨k, hk, rfl⟩
    omega
  · rintro ⟨h1, h2⟩
    exact ⟨x.toNat - 1, by omega, by omega⟩
theorem iota_nodup (n : Nat) : (iota n).Nodup := by
  induction n with
  | zero => simp [iota]
  | succ n ih =>
    rw [iota_succ, List.nodup_append]
    refine ⟨ih, by simp, ?_⟩
    intro a ha b hb
    rw [iota_mem] at ha
    obtain rfl : b = (n : Int) + 1 := by simpa using hb
    omega
theorem grtM_nonneg (s : ByteArray) (l : List S23) : 0 ≤ grtM s l := by
  unfold grtM
  have : ∀ (l : List S23) (g : Int), 0 ≤ g → 0 ≤ l.foldl (fun g m => if isS s m = true then (if g < m.f1 then m.f1 else g) else g) g := by
    intro l
    induction l with
    | nil => intro g h; exact h
    | cons x r ih =>
      intro g h
      rw [List.foldl_cons]
      refine ih _ ?_
      split
      · split <;> omega
      · exact h
  exact this l 0 (by omega)
theorem lastM_nonneg (s : ByteArray) (l : List S23) : 0 ≤ lastM s l := by
  have := grtM_nonneg s l
  unfold lastM
  split <;> omega
theorem lastM_le (s : ByteArray) (l : List S23) : lastM s l ≤ 4096 + l.length := by
  unfold lastM
  split <;> omega
theorem take_succ_rd (l : List S23) (i : Nat) (hi : i < l.length) : l.take (i + 1) = l.take i ++ [rd_T23 l (i : Int)] := by
  rw [List.take_add_one, List.getElem?_eq_getElem hi]
  unfold rd_T23
  rw [List.getD_eq_getElem?_getD, show ((i : Int)).toNat = i from by omega, List.getElem?_eq_getElem hi]
  rfl
theorem grtM_succ (s : ByteArray) (l : List S23) (i : Nat) (hi : i < l.length) : grtM s (l.take (i + 1)) = if isS s (rd_T23 l (i : Int)) = true then (if grtM s (l.take i) < (rd_T23 l (i : Int)).f1 then (rd_T23 l (i : Int)).f1 else grtM s (l.take i)) else grtM s (l.take i) := by
  rw [take_succ_rd l i hi]
  unfold grtM
  rw [List.foldl_append, List.foldl_cons, List.foldl_nil]
/-- What is left of the expected numbers behind the first i messages. -/
def leftM (s : ByteArray) (l : List S23) (N i : Nat) : List Int := (iota N).filter fun x => !(hasM s (l.take i) x)
theorem leftM_succ (s : ByteArray) (l : List S23) (N i : Nat) (hi : i < l.length) : leftM s l N (i + 1) = if isS s (rd_T23 l (i : Int)) = true then (leftM s l N i).filter (fun x => x != (rd_T23 l (i : Int)).f1) else leftM s l N i := by
  unfold leftM
  have hx : ∀ x, hasM s (l.take (i + 1)) x = (hasM s (l.take i) x || (isS s (rd_T23 l (i : Int)) && (rd_T23 l (i : Int)).f1 == x)) := fun x => by
    rw [take_succ_rd l i hi]
    unfold hasM
    rw [List.any_append, List.any_cons, List.any_nil, Bool.or_false]
  simp only [hx]
  generalize rd_T23 l (i : Int) = y
  split
  · next h =>
    rw [List.filter_filter]
    refine List.filter_congr fun x _ => ?_
    rw [h, Bool.true_and, Bool.not_or]
    have : (y.f1 == x) = (x == y.f1) := BEq.comm
    rw [this, Bool.and_comm]
    rfl
  · next h =>
    have h' : isS s y = false := by simpa using h
    simp only [h', Bool.false_and, Bool.or_false]
theorem leftM_range (s : ByteArray) (l : List S23) (N i : Nat) (hN : N ≤ 2000000) : ∀ x ∈ leftM s l N i, -9223372036854775808 ≤ x ∧ x ≤ 9223372036854775807 := fun x hx => by
  have := iota_mem.1 (List.mem_filter.1 hx).1
  omega
theorem leftM_nodup (s : ByteArray) (l : List S23) (N i : Nat) : (leftM s l N i).Nodup := (iota_nodup N).filter _
/-- The answer out of a beginning of the numbers. -/
theorem take_filter (p : Int → Bool) (N n : Nat) (hn : n ≤ N) (h : n = N ∨ 4096 ≤ ((iota n).filter p).length) (hl : ((iota n).filter p).length ≤ 4096) : ((iota N).filter p).take 4096 = (iota n).filter p := by
  rcases h with rfl | h
  · exact List.take_of_length_le hl
  · have : ∀ N, n ≤ N → ∃ r, (iota N).filter p = (iota n).filter p ++ r := by
      intro N hN
      induction N with
      | zero => obtain rfl : n = 0 := by omega
                exact ⟨[], by simp⟩
      | succ N ih =>
        by_cases hh : n = N + 1
        · subst hh; exact ⟨[], by simp⟩
        · obtain ⟨r, hr⟩ := ih (by omega)
          rw [iota_succ, List.filter_append, hr]
          exact ⟨_, List.append_assoc _ _ _⟩
    obtain ⟨r, hr⟩ := this N hn
    rw [hr]
    exact List.take_left' (by omega)
set_option maxHeartbeats 4000000 in
set_option maxRecDepth 100000 in
theorem message_Missing.calls (A0 : Option Addr) (c0 : Nat) (l0 : List S23) (a1 : ByteArray) (r : List Int) (w : World) (hr0 : Kd.C k23 w A0 l0.length l0) (hc0 : l0.length ≤ c0) (h : message_Missing.f l0 a1 = some r) :
    Calls Tryd.prog 21 #[.slice A0 l0.length c0, .string a1] w fun e w' => ∃ v0_ : Value, e = .returned (v0_) ∧ Kd.R (Kd.int .i64) 3 w' w.heap.size (fun _ => True) v0_ r ∧ Below w.heap.size w w' := by
  unfold message_Missing.f at h
  split at h
  case isFalse => cases h
  case isTrue hlim =>
  obtain rfl := Option.some.inj h
  clear h
  have hu23 := Tryd.underlying23
  have hmm := @run_makeMap Tryd.prog
  have hl6 := hlim.1
  have HR := Lib.hid hr0
  have HL := Lib.hid hlim
  obtain ⟨n, hn⟩ : ∃ n : Nat, lastM a1 l0 = (n : Int) := ⟨(lastM a1 l0).toNat, by have := lastM_nonneg a1 l0; omega⟩
  have hnl : n ≤ 1004096 := by have := lastM_le a1 l0; omega
  have HN := Lib.hid hn
  clear hr0 hlim
  go_enter Tryd.func21, Tryd.ntmps21
  go_wp2
  go_loopw [5, 17] (fun v5 v17 wr => ∃ i : Nat, v5 = .int .i64 (grtM a1 (l0.take i)) ∧ v17 = .int .i64 i ∧ Hid (i ≤ l0.length ∧ Below w.heap.size w wr)) (fun _ v17 _ => l0.length - (intOf v17).toNat)
  case atStart => exact ⟨0, by simp [grtM], rfl, Lib.hid ⟨by omega, Below.refl _ _⟩⟩
  case round =>
    obtain ⟨i, rfl, rfl, hh⟩ := hrel
    have hil := hh.out.1
    have HB := Lib.hid hh.out.2
    clear hh
    by_cases hlt : i < l0.length
    · have hg := grtM_succ a1 l0 i hlt
      obtain ⟨ad, ead, hx0, hx1, hx2, hx3, hx4, hx5, hx6⟩ := at_T23 (Kd.C_below HR.out HB.out) (i : Int) (by omega) (by omega)
      obtain ⟨y, hy⟩ : ∃ y, rd_T23 l0 (i : Int) = y := ⟨_, rfl⟩
      rw [hy] at hx0 hx1 hx2 hx3 hx4 hx5 hx6
      rw [Int.toNat_natCast] at hx0 hx1 hx2 hx3 hx4 hx5 hx6
      cases ead
      have hi0 : (0 : Int) ≤ (i : Int) := by omega
      have hi1 : (i : Int) < (l0.length : Int) := by omega
      have hbn := Below.alloc HB.out HB.out.size (.cells #[.string y.f0, .int .i64 y.f1, .int .i64 y.f2, .int .i64 y.f3, .int .i64 y.f4, .int .i64 y.f5, .string y.f6] 23)
      have hw1 : IntKind.i64.wrap ((i : Int) + 1) = (i : Int) + 1 := by rw [IntKind.wrap_i64]; omega
      rw [hy] at hg
      by_cases hs : isS a1 y = true
      · rw [if_pos hs] at hg
        have hsb : (y.f0.toList == a1.toList) = true := hs
        by_cases hgt : grtM a1 (l0.take i) < y.f1
        · rw [if_pos hgt] at hg
          go_wp2
          refine ⟨⟨i + 1, by rw [hg], by rw [show ((i : Int) + 1) = ((i + 1 : Nat) : Int) by omega], Lib.hid ⟨by omega, hbn⟩⟩, ?_⟩
          simp only [intOf]
          omega
        · rw [if_neg hgt] at hg
          go_wp2
          refine ⟨⟨i + 1, by rw [hg], by rw [show ((i : Int) + 1) = ((i + 1 : Nat) : Int) by omega], Lib.hid ⟨by omega, hbn⟩⟩, ?_⟩
          simp only [intOf]
          omega
      · rw [if_neg hs] at hg
        have hsb : (y.f0.toList == a1.toList) = false := by simpa [isS] using hs
        go_wp2
        refine ⟨⟨i + 1, by rw [hg], by rw [show ((i : Int) + 1) = ((i + 1 : Nat) : Int) by omega], Lib.hid ⟨by omega, hbn⟩⟩, ?_⟩
        simp only [intOf]
        omega
    · obtain rfl : i = l0.length := by omega
      clear hlt hil
      rw [List.take_length]
      have hw4 : IntKind.i64.wrap (4096 + (l0.length : Int)) = 4096 + (l0.length : Int) := by rw [IntKind.wrap_i64]; omega
      obtain ⟨g, hg⟩ : ∃ g, grtM a1 l0 = g := ⟨_, rfl⟩
      have hn1 := HN.out
      unfold lastM at hn1
      rw [hg] at hn1 ⊢
      have hz0 : ¬ ((l0.length : Int) < (l0.length : Int)) := by omega
      clear hg
      go_wp2
      have HA := HB
      clear HB hn1
      generalize wr = wA at *
      obtain ⟨B, hBdef⟩ : ∃ B, wA.heap.size = B := ⟨_, rfl⟩
      have hBw : w.heap.size ≤ B := by rw [← hBdef]; exact HA.out.size
      have HM0 := Lib.hid (MapS.made wA)
      rw [hBdef] at HM0 ⊢
      go_loopw [10] (fun v10 wr => ∃ k : Nat, v10 = .int .i64 ((k : Int) + 1) ∧ Hid (k ≤ n ∧ MapS wr B (iota k) ∧ Below w.heap.size w wr)) (fun v10 _ => n + 1 - (intOf v10).toNat)
      case atStart => exact ⟨0, by simp, Lib.hid ⟨by omega, HM0.out, below_alloc HA.out _⟩⟩
      case round =>
        obtain ⟨k, rfl, hh⟩ := hrel
        obtain ⟨hk, hM, hb⟩ := hh.out
        clear hh
        have HBB := Lib.hid hb
        clear hb
        by_cases hlt : k < n
        · obtain ⟨w1, hrun, hM1, hbel⟩ := hM.update (P := Tryd.prog) (T := 62) Tryd.underlying62 Tryd.underlying3 (fun x hx => by have := iota_mem.1 hx; omega) (k := (k : Int) + 1) (by omega) (fun hx => by have := iota_mem.1 hx; omega)
          have HX := Lib.hid (And.intro hM1 (hbel _ _ hBw HBB.out))
          have hk1 : (k : Int) + 1 ≤ (n : Int) := by omega
          have hw1 : IntKind.i64.wrap ((k : Int) + 1 + 1) = (k : Int) + 1 + 1 := by rw [IntKind.wrap_i64]; omega
          clear hM hM1 hbel
          go_wp2
          refine ⟨⟨k + 1, by rw [show ((k : Int) + 1 + 1) = ((k + 1 : Nat) : Int) + 1 by omega], Lib.hid ⟨by omega, by rw [iota_succ]; exact HX.out.1, HX.out.2⟩⟩, ?_⟩
          simp only [intOf]
          omega
        · obtain rfl : k = n := by omega
          have hk1 : ¬ ((k : Int) + 1 ≤ (k : Int)) := by omega
          have HMB := Lib.hid hM
          clear hlt hM
          go_wp2
          have HAA := HBB
          clear HBB
          generalize wr = wB at *
          go_loopw [45] (fun v45 wr => ∃ i : Nat, v45 = .int .i64 i ∧ Hid (i ≤ l0.length ∧ MapS wr B (leftM a1 l0 k i) ∧ Below w.heap.size w wr)) (fun v45 _ => l0.length - (intOf v45).toNat)
          case atStart => exact ⟨0, rfl, Lib.hid ⟨by omega, by rw [show leftM a1 l0 k 0 = iota k by simp [leftM, hasM]]; exact HMB.out, HAA.out⟩⟩
          case round =>
            obtain ⟨i, rfl, hh⟩ := hrel
            obtain ⟨hil, hM, hb⟩ := hh.out
            have HB := Lib.hid hb
            clear hh hb
            by_cases hlt : i < l0.length
            · have hg := leftM_succ a1 l0 k i hlt
              have hmem : rd_T23 l0 (i : Int) ∈ l0 := by
                unfold rd_T23
                rw [List.getD_eq_getElem?_getD, Int.toNat_natCast, List.getElem?_eq_getElem hlt]
                exact List.getElem_mem hlt
              obtain ⟨ad, ead, hx0, hx1, hx2, hx3, hx4, hx5, hx6⟩ := at_T23 (Kd.C_below HR.out HB.out) (i : Int) (by omega) (by omega)
              obtain ⟨y, hy⟩ : ∃ y, rd_T23 l0 (i : Int) = y := ⟨_, rfl⟩
              rw [hy] at hx0 hx1 hx2 hx3 hx4 hx5 hx6
              rw [Int.toNat_natCast] at hx0 hx1 hx2 hx3 hx4 hx5 hx6
              cases ead
              have hi0 : (0 : Int) ≤ (i : Int) := by omega
              have hi1 : (i : Int) < (l0.length : Int) := by omega
              have hbn := Below.alloc HB.out HB.out.size (.cells #[.string y.f0, .int .i64 y.f1, .int .i64 y.f2, .int .i64 y.f3, .int .i64 y.f4, .int .i64 y.f5, .string y.f6] 23)
              have hyr := HL.out.2 _ hmem
              have hw1 : IntKind.i64.wrap ((i : Int) + 1) = (i : Int) + 1 := by rw [IntKind.wrap_i64]; omega
              rw [hy] at hg hyr
              have hMn : MapS (wr.alloc (.cells #[.string y.f0, .int .i64 y.f1, .int .i64 y.f2, .int .i64 y.f3, .int .i64 y.f4, .int .i64 y.f5, .string y.f6] 23)) B (leftM a1 l0 k i) := hM.kept (Below.heap_alloc _ _ _ hM.lt)
              clear hM hmem
              by_cases hs : isS a1 y = true
              · rw [if_pos hs] at hg
                have hsb : (y.f0.toList == a1.toList) = true := hs
                obtain ⟨w1, hrun, hM1, hbel⟩ := hMn.delete (P := Tryd.prog) (T := 62) Tryd.underlying62 Tryd.underlying3 (leftM_range a1 l0 k i (by omega)) (leftM_nodup a1 l0 k i) hyr
                have HX := Lib.hid (And.intro hM1 (hbel _ _ hBw hbn))
                clear hMn hM1 hbel hyr hbn
                go_wp2
                refine ⟨⟨i + 1, by rw [show ((i : Int) + 1) = ((i + 1 : Nat) : Int) by omega], Lib.hid ⟨by omega, by rw [hg]; exact HX.out.1, HX.out.2⟩⟩, ?_⟩
                simp only [intOf]
                omega
              · rw [if_neg hs] at hg
                have hsb : (y.f0.toList == a1.toList) = false := by simpa [isS] using hs
                have HX := Lib.hid (And.intro hMn hbn)
                clear hMn hyr hbn
                go_wp2
                refine ⟨⟨i + 1, by rw [show ((i : Int) + 1) = ((i + 1 : Nat) : Int) by omega], Lib.hid ⟨by omega, by rw [hg]; exact HX.out.1, HX.out.2⟩⟩, ?_⟩
                simp only [intOf]
                omega
            · obtain rfl : i = l0.length := by omega
              clear hlt hil
              have hz0 : ¬ ((l0.length : Int) < (l0.length : Int)) := by omega
              have HMC := Lib.hid hM
              clear hM
              go_wp2
              have HC := HB
              clear HB
              generalize wr = wC at *
              have hBC : B < wC.heap.size := HMC.out.lt
              go_loopw [13, 14] (fun v13 v14 wr => ∃ j : Nat, v14 = .int .i64 ((j : Int) + 1) ∧ Hid (j ≤ k ∧ ((iota j).filter fun x => !(hasM a1 l0 x)).length ≤ 4096 ∧ Kd.R (Kd.int .i64) 3 wr wC.heap.size (fun _ => True) v13 ((iota j).filter fun x => !(hasM a1 l0 x)) ∧ Below wC.heap.size wC wr)) (fun _ v14 _ => k + 1 - (intOf v14).toNat)
              case atStart => exact ⟨0, by simp, Lib.hid ⟨by omega, by simp [iota], by simp [iota]; exact Kd.R_nil _ _ _ _ _, Below.refl _ _⟩⟩
              case round =>
                obtain ⟨j, rfl, hh⟩ := hrel
                obtain ⟨hj, hlen, hR, hb⟩ := hh.out
                clear hh
                obtain ⟨A13, c13, rfl⟩ := Kd.R_slice hR
                obtain ⟨xs, hxs⟩ : ∃ xs, ((iota j).filter fun x => !(hasM a1 l0 x)) = xs := ⟨_, rfl⟩
                rw [hxs] at hlen hR ⊢
                by_cases hgo : j < k ∧ xs.length < 4096
                · have hj1 : (j : Int) + 1 ≤ (k : Int) := by omega
                  have hl1 : (xs.length : Int) < 4096 := by omega
                  have hw1 : IntKind.i64.wrap ((j : Int) + 1 + 1) = (j : Int) + 1 + 1 := by rw [IntKind.wrap_i64]; omega
                  have hrun := (HMC.out.kept (hb.block _ hBC)).lookup (P := Tryd.prog) (T := 62) (k := (j : Int) + 1) Tryd.underlying62 Tryd.underlying3 (by rfl) (leftM_range a1 l0 k l0.length (by omega)) (by omega)
                  have hdec : decide ((j : Int) + 1 ∈ leftM a1 l0 k l0.length) = !(hasM a1 l0 ((j : Int) + 1)) := by
                    rw [Bool.eq_iff_iff]
                    unfold leftM
                    rw [List.take_length, decide_eq_true_iff, List.mem_filter, iota_mem]
                    constructor
                    · exact fun h => h.2
                    · exact fun h => ⟨by omega, h⟩
                  rw [hdec] at hrun
                  have hnx : ((iota (j + 1)).filter fun x => !(hasM a1 l0 x)) = xs ++ (if (!(hasM a1 l0 ((j : Int) + 1))) = true then [(j : Int) + 1] else []) := by
                    rw [iota_succ, List.filter_append, hxs, List.filter_cons, List.filter_nil]
                  by_cases hp : (!(hasM a1 l0 ((j : Int) + 1))) = true
                  · rw [if_pos hp] at hnx
                    rw [hp] at hrun
                    have HF := Lib.hid (And.intro hR (And.intro hb hgo))
                    clear hR hb hgo hdec hp hlen hxs
                    go_wp2_with (at_builtin; refine Kd.R_append (Kd.int .i64) (w0 := wC) wC.heap.size rfl (.tmp 70) (.tmp 72) 38 3 (.int .i64 0) 8 rfl Tryd.underlying38 info3 rfl (by decide) (by omega) (.slice A13 xs.length c13) xs ((j : Int) + 1) [.int .i64 ((j : Int) + 1)] (fun _ => True) (fun _ => False) rfl rfl ?aP (fun _ hk => hk.elim) ?aF ?aO ?aB ?aS ?aL ?_; (case aP => exact rfl); (case aB => exact HF.out.2.1); (case aF => exact (fun _ _ => trivial)); (case aO => exact HF.out.1); (case aS => exact HF.out.2.1.size); (case aL => exact (by have := HF.out.2.2.2; omega)); intro v2 w2 ho hb2 hg2 hat2; have HO := Lib.hid ho; have HB2 := Lib.hid hb2; clear ho hb2 hg2 hat2)
                    refine ⟨⟨j + 1, by rw [show ((j : Int) + 1 + 1) = ((j + 1 : Nat) : Int) + 1 by omega], Lib.hid ⟨by have := HF.out.2.2.1; omega, by rw [hnx, List.length_append, List.length_singleton]; have := HF.out.2.2.2; omega, by rw [hnx]; exact HO.out, HB2.out⟩⟩, ?_⟩
                    simp only [intOf]
                    omega
                  · rw [if_neg hp, List.append_nil] at hnx
                    have hp' : (!(hasM a1 l0 ((j : Int) + 1))) = false := by simpa using hp
                    rw [hp'] at hrun
                    have HF := Lib.hid (And.intro hR (And.intro hb (And.intro hgo hlen)))
                    clear hR hb hgo hdec hp hp' hlen hxs
                    go_wp2
                    refine ⟨⟨j + 1, by rw [show ((j : Int) + 1 + 1) = ((j + 1 : Nat) : Int) + 1 by omega], Lib.hid ⟨by have := HF.out.2.2.1.1; omega, by rw [hnx]; exact HF.out.2.2.2, by rw [hnx]; exact HF.out.1, HF.out.2.1⟩⟩, ?_⟩
                    simp only [intOf]
                    omega
                · have hres : ((iota k).filter fun x => !(hasM a1 l0 x)).take 4096 = xs := by
                    rw [← hxs]
                    exact take_filter _ k j hj (by rw [hxs]; omega) (by rw [hxs]; exact hlen)
                  have HF := Lib.hid (And.intro hR (And.intro hb hres))
                  by_cases hj1 : (j : Int) + 1 ≤ (k : Int)
                  · have hl1 : ¬ ((xs.length : Int) < 4096) := by omega
                    clear hR hb hres hgo hlen hxs
                    go_wp2
                    go_ret
                    exact ⟨_, rfl, by rw [HF.out.2.2]; exact Kd.R_lower HF.out.1 HC.out.size, below_then HC.out HC.out.size HF.out.2.1⟩
                  · clear hR hb hres hgo hlen hxs
                    go_wp2
                    go_ret
                    exact ⟨_, rfl, by rw [HF.out.2.2]; exact Kd.R_lower HF.out.1 HC.out.size, below_then HC.out HC.out.size HF.out.2.1⟩
end Go.Proofs.YthmlibimhdeocaaDoor

