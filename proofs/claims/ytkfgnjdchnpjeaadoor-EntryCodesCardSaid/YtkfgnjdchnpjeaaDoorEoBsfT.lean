/- BsfY, BsfT: what the law EntryCodes asks of it. -/
import Derived.Test.YtkfgnjdchnpjeaaDoorEoRowY
import Derived.Deep.LoopGhost
import Derived.Deep.RegionHeld3
section
namespace Go.Proofs.YtkfgnjdchnpjeaaDoor
open Go.RowKit Go.Shelf Go.Lib Go.Proofs.YtkfgnjdchnpjeaaDoor.QD Go.Proofs.YtkfgnjdchnpjeaaDoorW.PrintWords
set_option linter.unusedVariables false
set_option linter.unusedSimpArgs false

/-- How many of a row precede the target. -/
def cntY (cft : S44 → Int) (l : List S44) : Nat := l.countP fun x => decide (cft x < 0)
theorem cnt_Y (cft : S44 → Int) : ∀ (l : List S44) (i : Nat), i ≤ l.length → (∀ t, t < i → cft (rd_T44 l ((t : Nat) : Int)) < 0) → (∀ t, i ≤ t → t < l.length → 0 ≤ cft (rd_T44 l ((t : Nat) : Int))) → cntY cft l = i
  | [], i, hi, _, _ => by simp at hi; simp [hi, cntY]
  | a :: r, 0, _, _, h2 => by
    unfold cntY
    rw [List.countP_eq_zero]
    intro x hx
    obtain ⟨t, ht, rfl⟩ := List.getElem_of_mem hx
    have := h2 t (Nat.zero_le _) ht
    unfold rd_T44 at this
    rw [Int.toNat_natCast, List.getD_eq_getElem?_getD, List.getElem?_eq_getElem ht] at this
    simp only [decide_eq_true_eq]
    exact Int.not_lt.2 this
  | a :: r, i + 1, hi, h1, h2 => by
    have ha : cft a < 0 := h1 0 (Nat.succ_pos _)
    have sh : ∀ t : Nat, rd_T44 (a :: r) (((t + 1 : Nat)) : Int) = rd_T44 r ((t : Nat) : Int) := fun t => by
      unfold rd_T44
      rw [Int.toNat_natCast, Int.toNat_natCast]
      rfl
    have ih := cnt_Y cft r i (by simpa using hi) (fun t ht => by have := h1 (t + 1) (by omega); rwa [sh] at this) (fun t h3 h4 => by have := h2 (t + 1) (by omega) (by simpa using h4); rwa [sh] at this)
    unfold cntY at ih ⊢
    rw [List.countP_cons_of_pos (by simpa using ha), ih]
set_option maxHeartbeats 4000000 in
set_option maxRecDepth 100000 in
theorem bsf_Y (A : Option Addr) (c : Nat) (l : List S44) (tv : Value) (cft : S44 → Int) (g : Nat) (lb : Array Value) (eg : ∀ args w, (callFunc g args).run Tryd.prog w = .ok (.enter g args) w) (w : World) (hC : Kd.C k44 w A l.length l) (hl : l.length ≤ 1000000)
    (hcmp : ∀ (W : World) (y : S44), Below w.heap.size w W → Calls Tryd.prog g (#[.agg #[.string y.f0, .int .i64 y.f1], tv] ++ lb) W fun e w' => e = .returned (.int .i64 (cft y)) ∧ Below W.heap.size W w')
    (hmono : ∀ a b : Nat, a ≤ b → b < l.length → cft (rd_T44 l (b : Int)) < 0 → cft (rd_T44 l (a : Int)) < 0) :
    Calls Tryd.prog 37 #[.slice A l.length c, tv, .func (.func g) #[] lb] w fun e w' =>
      e = .returned (.tuple #[.int .i64 (cntY cft l : Nat), .bool (decide (cntY cft l < l.length) && decide (cft (rd_T44 l (cntY cft l : Nat)) = 0))]) ∧ Below w.heap.size w w' := by
  have hu := Tryd.underlying44
  have HC := Lib.hid hC
  have HK := Lib.hid hcmp
  have HM := Lib.hid hmono
  clear hC hcmp hmono
  generalize hcnt : cntY cft l = cnt
  have CN := Lib.hid hcnt
  clear hcnt
  generalize hfin : (decide (cnt < l.length) && decide (cft (rd_T44 l (cnt : Nat)) = 0)) = fin
  have FIN := Lib.hid hfin
  clear hfin
  go_enter Tryd.func37, Tryd.ntmps37
  go_wp2
  go_loopg [9, 10] l.length (fun kx s9 s10 wr => ∃ lo hi : Nat, s9 = .int .i64 lo ∧ s10 = .int .i64 hi ∧ lo ≤ hi ∧ hi ≤ l.length ∧ hi - lo ≤ kx ∧ Hid (Below w.heap.size w wr) ∧
    Hid ((∀ t : Nat, t < lo → cft (rd_T44 l (t : Int)) < 0) ∧ (∀ t : Nat, hi ≤ t → t < l.length → 0 ≤ cft (rd_T44 l (t : Int)))))
  case atStart => exact ⟨0, l.length, rfl, rfl, Nat.zero_le _, Nat.le_refl _, by omega, Lib.hid (Below.refl _ _), Lib.hid (⟨fun t ht => absurd ht (Nat.not_lt_zero _), fun t h1 h2 => by omega⟩ : (∀ t : Nat, t < 0 → cft (rd_T44 l (t : Int)) < 0) ∧ (∀ t : Nat, l.length ≤ t → t < l.length → 0 ≤ cft (rd_T44 l (t : Int))))⟩
  case round =>
    obtain ⟨lo, hi, rfl, rfl, hlh, hin, hg, HB, I⟩ := hrel
    by_cases hlt : lo < hi
    · have hmid : (lo + hi) / 2 < l.length := by omega
      obtain ⟨ad, ead, hx0, hx1⟩ := at_T44 (Kd.C_below HC.out HB.out) (((lo + hi) / 2 : Nat) : Int) (by omega) (by omega)
      rw [Int.toNat_natCast] at hx0 hx1
      cases ead
      generalize hy : rd_T44 l (((lo + hi) / 2 : Nat) : Int) = y at hx0 hx1
      have Y := Lib.hid hy
      clear hy
      by_cases hyx : cft y < 0
      · go_wp2_with (go_at_fn g; refine (HK.out _ y HB.out).mono ?_; rintro e w' ⟨rfl, hb_⟩; have HB2 := Lib.hid (below_then HB.out HB.out.size hb_); clear hb_)
        go_roundg (hi - ((lo + hi) / 2 + 1))
        case measure => omega
        case rel =>
          exact ⟨(lo + hi) / 2 + 1, hi, by rw [show ((lo : Int) + (hi : Int)) / 2 + 1 = (((lo + hi) / 2 + 1 : Nat) : Int) by omega], rfl, by omega, hin, Nat.le_refl _, HB2, Lib.hid ⟨fun t ht => HM.out t ((lo + hi) / 2) (by omega) hmid (by rw [Y.out]; exact hyx), I.out.2⟩⟩
      · go_wp2_with (go_at_fn g; refine (HK.out _ y HB.out).mono ?_; rintro e w' ⟨rfl, hb_⟩; have HB2 := Lib.hid (below_then HB.out HB.out.size hb_); clear hb_)
        go_roundg ((lo + hi) / 2 - lo)
        case measure => omega
        case rel =>
          exact ⟨lo, (lo + hi) / 2, rfl, by rw [show ((lo : Int) + (hi : Int)) / 2 = (((lo + hi) / 2 : Nat) : Int) by omega], by omega, by omega, Nat.le_refl _, HB2, Lib.hid ⟨I.out.1, fun t ht htn => Int.not_lt.1 fun h => by have := HM.out ((lo + hi) / 2) t ht htn h; rw [Y.out] at this; omega⟩⟩
    · obtain rfl : hi = lo := by omega
      have ecnt : cnt = hi := by
        rw [← CN.out]
        exact cnt_Y cft l hi hin I.out.1 I.out.2
      subst ecnt
      by_cases hn : cnt < l.length
      · have hnz : (cnt : Int) < (l.length : Int) := by omega
        obtain ⟨ad, ead, hx0, hx1⟩ := at_T44 (Kd.C_below HC.out HB.out) ((cnt : Nat) : Int) (by omega) (by omega)
        rw [Int.toNat_natCast] at hx0 hx1
        cases ead
        generalize hy : rd_T44 l ((cnt : Nat) : Int) = y at hx0 hx1
        have Y := Lib.hid hy
        clear hy
        by_cases hyx : cft y = 0
        · go_wp2_with (go_at_fn g; refine (HK.out _ y HB.out).mono ?_; rintro e w' ⟨rfl, hb_⟩; have HB2 := Lib.hid (below_then HB.out HB.out.size hb_); clear hb_)
          go_ret2
          exact ⟨by rw [← FIN.out, Y.out]; simp [hn, hyx], HB2.out⟩
        · go_wp2_with (go_at_fn g; refine (HK.out _ y HB.out).mono ?_; rintro e w' ⟨rfl, hb_⟩; have HB2 := Lib.hid (below_then HB.out HB.out.size hb_); clear hb_)
          go_ret2
          exact ⟨by rw [← FIN.out, Y.out]; simp [hn, hyx], HB2.out⟩
      · have hnz : ¬ (cnt : Int) < (l.length : Int) := by omega
        go_wp2
        go_ret2
        exact ⟨by rw [← FIN.out]; simp [hn], HB.out⟩
end Go.Proofs.YtkfgnjdchnpjeaaDoor

end
section
namespace Go.Proofs.YtkfgnjdchnpjeaaDoor
open Go.RowKit Go.Shelf Go.Lib Go.Proofs.YtkfgnjdchnpjeaaDoor.QD Go.Proofs.YtkfgnjdchnpjeaaDoorW.PrintWords
set_option linter.unusedVariables false
set_option linter.unusedSimpArgs false

/-- How many of a row precede the target. -/
def cntL (cft : S46 → Int) (l : List S46) : Nat := l.countP fun x => decide (cft x < 0)
theorem cnt_L (cft : S46 → Int) : ∀ (l : List S46) (i : Nat), i ≤ l.length → (∀ t, t < i → cft (rd_T46 l ((t : Nat) : Int)) < 0) → (∀ t, i ≤ t → t < l.length → 0 ≤ cft (rd_T46 l ((t : Nat) : Int))) → cntL cft l = i
  | [], i, hi, _, _ => by simp at hi; simp [hi, cntL]
  | a :: r, 0, _, _, h2 => by
    unfold cntL
    rw [List.countP_eq_zero]
    intro x hx
    obtain ⟨t, ht, rfl⟩ := List.getElem_of_mem hx
    have := h2 t (Nat.zero_le _) ht
    unfold rd_T46 at this
    rw [Int.toNat_natCast, List.getD_eq_getElem?_getD, List.getElem?_eq_getElem ht] at this
    simp only [decide_eq_true_eq]
    exact Int.not_lt.2 this
  | a :: r, i + 1, hi, h1, h2 => by
    have ha : cft a < 0 := h1 0 (Nat.succ_pos _)
    have sh : ∀ t : Nat, rd_T46 (a :: r) (((t + 1 : Nat)) : Int) = rd_T46 r ((t : Nat) : Int) := fun t => by
      unfold rd_T46
      rw [Int.toNat_natCast, Int.toNat_natCast]
      rfl
    have ih := cnt_L cft r i (by simpa using hi) (fun t ht => by have := h1 (t + 1) (by omega); rwa [sh] at this) (fun t h3 h4 => by have := h2 (t + 1) (by omega) (by simpa using h4); rwa [sh] at this)
    unfold cntL at ih ⊢
    rw [List.countP_cons_of_pos (by simpa using ha), ih]
set_option maxHeartbeats 4000000 in
set_option maxRecDepth 100000 in
theorem bsf_L (A : Option Addr) (c : Nat) (l : List S46) (t : S46) (cft : S46 → Int) (g : Nat) (lb : Array Value) (eg : ∀ args w, (callFunc g args).run Tryd.prog w = .ok (.enter g args) w) (w : World) (hC : Kd.C k46 w A l.length l) (hl : l.length ≤ 1000000)
    (hcmp : ∀ (W : World) (y : S46), Below w.heap.size w W → Calls Tryd.prog g (#[.agg #[.int .i64 y.f0, .int .i64 y.f1, .string y.f2], .agg #[.int .i64 t.f0, .int .i64 t.f1, .string t.f2]] ++ lb) W fun e w' => e = .returned (.int .i64 (cft y)) ∧ Below W.heap.size W w')
    (hmono : ∀ a b : Nat, a ≤ b → b < l.length → cft (rd_T46 l (b : Int)) < 0 → cft (rd_T46 l (a : Int)) < 0) :
    Calls Tryd.prog 61 #[.slice A l.length c, .agg #[.int .i64 t.f0, .int .i64 t.f1, .string t.f2], .func (.func g) #[] lb] w fun e w' =>
      e = .returned (.tuple #[.int .i64 (cntL cft l : Nat), .bool (decide (cntL cft l < l.length) && decide (cft (rd_T46 l (cntL cft l : Nat)) = 0))]) ∧ Below w.heap.size w w' := by
  have hu := Tryd.underlying46
  have HC := Lib.hid hC
  have HK := Lib.hid hcmp
  have HM := Lib.hid hmono
  clear hC hcmp hmono
  generalize hcnt : cntL cft l = cnt
  have CN := Lib.hid hcnt
  clear hcnt
  generalize hfin : (decide (cnt < l.length) && decide (cft (rd_T46 l (cnt : Nat)) = 0)) = fin
  have FIN := Lib.hid hfin
  clear hfin
  go_enter Tryd.func61, Tryd.ntmps61
  go_wp2
  go_loopg [9, 10] l.length (fun kx s9 s10 wr => ∃ lo hi : Nat, s9 = .int .i64 lo ∧ s10 = .int .i64 hi ∧ lo ≤ hi ∧ hi ≤ l.length ∧ hi - lo ≤ kx ∧ Hid (Below w.heap.size w wr ∧ wr.heap[w.heap.size]? = some (.cells (encL t).toArray 46 (0, 0))) ∧
    Hid ((∀ t : Nat, t < lo → cft (rd_T46 l (t : Int)) < 0) ∧ (∀ t : Nat, hi ≤ t → t < l.length → 0 ≤ cft (rd_T46 l (t : Int)))))
  case atStart => exact ⟨0, l.length, rfl, rfl, Nat.zero_le _, Nat.le_refl _, by omega, Lib.hid ⟨below_alloc (Below.refl _ _) _, heap_alloc_new w _⟩, Lib.hid (⟨fun t ht => absurd ht (Nat.not_lt_zero _), fun t h1 h2 => by omega⟩ : (∀ t : Nat, t < 0 → cft (rd_T46 l (t : Int)) < 0) ∧ (∀ t : Nat, l.length ≤ t → t < l.length → 0 ≤ cft (rd_T46 l (t : Int))))⟩
  case round =>
    obtain ⟨lo, hi, rfl, rfl, hlh, hin, hg, HB, I⟩ := hrel
    by_cases hlt : lo < hi
    · have hmid : (lo + hi) / 2 < l.length := by omega
      have hi0 : (0 : Int) ≤ ((lo : Int) + (hi : Int)) / 2 := by omega
      have hi1 : ((lo : Int) + (hi : Int)) / 2 < (l.length : Int) := by omega
      have hi2 : (((lo : Int) + (hi : Int)) / 2).toNat = (lo + hi) / 2 := by omega
      obtain ⟨ad, ead, hx0, hx1, hx2⟩ := at_T46 (Kd.C_below HC.out HB.out.1) (((lo + hi) / 2 : Nat) : Int) (by omega) (by omega)
      rw [Int.toNat_natCast] at hx0 hx1 hx2
      cases ead
      generalize hy : rd_T46 l (((lo + hi) / 2 : Nat) : Int) = y at hx0 hx1 hx2
      have Y := Lib.hid hy
      clear hy
      have d0 : wr.cell? ⟨w.heap.size, 0, none⟩ = some (.int .i64 t.f0) := (blk_cell HB.out.2 0).trans rfl
      have d1 : wr.cell? ⟨w.heap.size, 1, none⟩ = some (.int .i64 t.f1) := (blk_cell HB.out.2 1).trans rfl
      have d2 : wr.cell? ⟨w.heap.size, 2, none⟩ = some (.string t.f2) := (blk_cell HB.out.2 2).trans rfl
      go_wp2
      go_region_held3 (fun w' => w'.cell? (ad.add ((lo + hi) / 2 * 3)) = some (.int .i64 y.f0) ∧ w'.cell? ⟨(ad.add ((lo + hi) / 2 * 3)).block, (ad.add ((lo + hi) / 2 * 3)).off + 1, none⟩ = some (.int .i64 y.f1) ∧ w'.cell? ⟨(ad.add ((lo + hi) / 2 * 3)).block, (ad.add ((lo + hi) / 2 * 3)).off + 2, none⟩ = some (.string y.f2) ∧ w'.cell? ⟨w.heap.size, 0, none⟩ = some (.int .i64 t.f0) ∧ w'.cell? ⟨w.heap.size, 1, none⟩ = some (.int .i64 t.f1) ∧ w'.cell? ⟨w.heap.size, 2, none⟩ = some (.string t.f2)) (first | go_keep | exact ⟨(hb_.cell (World.block_lt_of_cell? _ _ hx0)).trans hx0, (hb_.cell (World.block_lt_of_cell? _ _ hx1)).trans hx1, (hb_.cell (World.block_lt_of_cell? _ _ hx2)).trans hx2, (hb_.cell (World.block_lt_of_cell? _ _ d0)).trans d0, (hb_.cell (World.block_lt_of_cell? _ _ d1)).trans d1, (hb_.cell (World.block_lt_of_cell? _ _ d2)).trans d2⟩) ((go_at_fn g; refine (HK.out _ y HB.out.1.drew).mono ?_; rintro e w' ⟨rfl, hb_⟩))
      have HB2 := Lib.hid (And.intro (below_then HB.out.1.drew HB.out.1.size hb_) ((hb_.block _ (blk_lt HB.out.2)).trans HB.out.2))
      clear hb_
      by_cases hyx : cft y < 0
      · go_wp2
        go_roundg (hi - ((lo + hi) / 2 + 1))
        case measure => omega
        case rel =>
          exact ⟨(lo + hi) / 2 + 1, hi, by rw [show ((lo : Int) + (hi : Int)) / 2 + 1 = (((lo + hi) / 2 + 1 : Nat) : Int) by omega], rfl, by omega, hin, Nat.le_refl _, HB2, Lib.hid ⟨fun t ht => HM.out t ((lo + hi) / 2) (by omega) hmid (by rw [Y.out]; exact hyx), I.out.2⟩⟩
      · go_wp2
        go_roundg ((lo + hi) / 2 - lo)
        case measure => omega
        case rel =>
          exact ⟨lo, (lo + hi) / 2, rfl, by rw [show ((lo : Int) + (hi : Int)) / 2 = (((lo + hi) / 2 : Nat) : Int) by omega], by omega, by omega, Nat.le_refl _, HB2, Lib.hid ⟨I.out.1, fun t ht htn => Int.not_lt.1 fun h => by have := HM.out ((lo + hi) / 2) t ht htn h; rw [Y.out] at this; omega⟩⟩
    · obtain rfl : hi = lo := by omega
      have ecnt : cnt = hi := by
        rw [← CN.out]
        exact cnt_L cft l hi hin I.out.1 I.out.2
      subst ecnt
      by_cases hn : cnt < l.length
      · have hnz : (cnt : Int) < (l.length : Int) := by omega
        obtain ⟨ad, ead, hx0, hx1, hx2⟩ := at_T46 (Kd.C_below HC.out HB.out.1) ((cnt : Nat) : Int) (by omega) (by omega)
        rw [Int.toNat_natCast] at hx0 hx1 hx2
        cases ead
        generalize hy : rd_T46 l ((cnt : Nat) : Int) = y at hx0 hx1 hx2
        have Y := Lib.hid hy
        clear hy
        have d0 : wr.cell? ⟨w.heap.size, 0, none⟩ = some (.int .i64 t.f0) := (blk_cell HB.out.2 0).trans rfl
        have d1 : wr.cell? ⟨w.heap.size, 1, none⟩ = some (.int .i64 t.f1) := (blk_cell HB.out.2 1).trans rfl
        have d2 : wr.cell? ⟨w.heap.size, 2, none⟩ = some (.string t.f2) := (blk_cell HB.out.2 2).trans rfl
        go_wp2
        go_region_held3 (fun w' => w'.cell? (ad.add (cnt * 3)) = some (.int .i64 y.f0) ∧ w'.cell? ⟨(ad.add (cnt * 3)).block, (ad.add (cnt * 3)).off + 1, none⟩ = some (.int .i64 y.f1) ∧ w'.cell? ⟨(ad.add (cnt * 3)).block, (ad.add (cnt * 3)).off + 2, none⟩ = some (.string y.f2) ∧ w'.cell? ⟨w.heap.size, 0, none⟩ = some (.int .i64 t.f0) ∧ w'.cell? ⟨w.heap.size, 1, none⟩ = some (.int .i64 t.f1) ∧ w'.cell? ⟨w.heap.size, 2, none⟩ = some (.string t.f2)) (first | go_keep | exact ⟨(hb_.cell (World.block_lt_of_cell? _ _ hx0)).trans hx0, (hb_.cell (World.block_lt_of_cell? _ _ hx1)).trans hx1, (hb_.cell (World.block_lt_of_cell? _ _ hx2)).trans hx2, (hb_.cell (World.block_lt_of_cell? _ _ d0)).trans d0, (hb_.cell (World.block_lt_of_cell? _ _ d1)).trans d1, (hb_.cell (World.block_lt_of_cell? _ _ d2)).trans d2⟩) ((go_at_fn g; refine (HK.out _ y HB.out.1.drew).mono ?_; rintro e w' ⟨rfl, hb_⟩))
        have HB2 := Lib.hid (And.intro (below_then HB.out.1.drew HB.out.1.size hb_) ((hb_.block _ (blk_lt HB.out.2)).trans HB.out.2))
        clear hb_
        by_cases hyx : cft y = 0
        · go_wp2
          go_ret2
          exact ⟨by rw [← FIN.out, Y.out]; simp [hn, hyx], HB2.out.1⟩
        · go_wp2
          go_ret2
          exact ⟨by rw [← FIN.out, Y.out]; simp [hn, hyx], HB2.out.1⟩
      · have hnz : ¬ (cnt : Int) < (l.length : Int) := by omega
        go_wp2
        go_region
        go_wp2
        go_ret2
        exact ⟨by rw [← FIN.out]; simp [hn], HB.out.1.drew⟩
end Go.Proofs.YtkfgnjdchnpjeaaDoor

end
