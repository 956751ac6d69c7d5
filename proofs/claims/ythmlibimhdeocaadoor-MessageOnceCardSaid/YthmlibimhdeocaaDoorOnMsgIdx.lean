/- MsgIdx: what the law MessageOnce asks of it. -/
import Derived.Test.YthmlibimhdeocaaDoorOnQDx0
import Derived.Test.YthmlibimhdeocaaDoorOnQBx1
import Derived.Test.YthmlibimhdeocaaDoorOnMsgLay
import Derived.Shelf.SlicesQ.IndexFunc
import Derived.Ground.SlgfProg
import Derived.Lib.SliceRun
namespace Go.Proofs.YthmlibimhdeocaaDoor
open Go.RowKit Go.Shelf Go.Proofs.YthmlibimhdeocaaDoor.QD Go.Proofs.YthmlibimhdeocaaDoorW.PrintWords
set_option linter.unusedVariables false
set_option linter.unusedSimpArgs false

instance : Inhabited S23 := ⟨z23⟩
/-- A message's seven cells. -/
def encM (x : S23) : List Value := [.string x.f0, .int .i64 x.f1, .int .i64 x.f2, .int .i64 x.f3, .int .i64 x.f4, .int .i64 x.f5, .string x.f6]
def cmpT (a b : ByteArray) : Int := if Op.bytesLess a.toList b.toList = true then -1 else if Op.bytesLess b.toList a.toList = true then 1 else 0
def cmpI (a b : Int) : Int := if a < b then -1 else if a > b then 1 else 0
/-- The places of two messages compared. -/
def cmpM (x m : S23) : Int := if cmpT x.f0 m.f0 = 0 then cmpI x.f1 m.f1 else cmpT x.f0 m.f0
theorem cmpM_f (x m : S23) : QB.message_compare.f 4 x.f0 x.f1 x.f2 x.f3 x.f4 x.f5 x.f6 m.f0 m.f1 m.f2 m.f3 m.f4 m.f5 m.f6 = some (cmpM x m) := by
  have e1 : QB.cmp_Compare_string.f x.f0 m.f0 = some (cmpT x.f0 m.f0) := by
    unfold QB.cmp_Compare_string.f QB.cmp_isNaN_string.f cmpT
    simp only [bne_self_eq_false, Option.bind_some]
    rw [if_neg (by simp), if_neg (by simp)]
    split
    · rfl
    · split <;> rfl
  have e2 : QB.cmp_Compare_int.f x.f1 m.f1 = some (cmpI x.f1 m.f1) := by
    unfold QB.cmp_Compare_int.f QB.cmp_isNaN_int.f cmpI
    simp only [bne_self_eq_false, Option.bind_some]
    rw [if_neg (by simp), if_neg (by simp)]
    split
    · rfl
    · split <;> rfl
  unfold QB.message_compare.f cmpM
  rw [e1, Option.bind_some, e2, Option.bind_some]
  generalize cmpT x.f0 m.f0 = a
  generalize cmpI x.f1 m.f1 = b
  have w1 : wrap64 1 = 1 := by unfold wrap64; omega
  have w2 : wrap64 2 = 2 := by unfold wrap64; omega
  have r0 : ∀ a b : Int, rd [a, b] 0 = a := fun _ _ => rfl
  have r1 : ∀ a b : Int, rd [a, b] 1 = b := fun _ _ => rfl
  unfold QB.cmp_Or_int.f
  by_cases ha : a = 0
  · by_cases hb : b = 0
    · simp [QB.cmp_Or_int.l0, r0, r1, ha, hb, w1, w2]
    · simp [QB.cmp_Or_int.l0, r0, r1, ha, hb, w1, w2]
  · simp [QB.cmp_Or_int.l0, r0, r1, ha, w1, w2]
set_option maxHeartbeats 4000000 in
set_option maxRecDepth 100000 in
/-- The first closure: the same place. -/
theorem clo_eq (m : S23) (B : Nat) (w : World) (hblk : w.heap[B]? = some (.cells (encM m).toArray 23 (0, 0))) :
    PredBelow Tryd.prog 41 #[.pointer (some ⟨B, 0, none⟩)] (fun x => .agg (encM x).toArray) (fun x => decide (cmpM x m = 0)) w := fun W x hb => by
  have hu23 := Tryd.underlying23
  have hB : W.heap[B]? = some (.cells (encM m).toArray 23 (0, 0)) := (hb.block B (blk_lt hblk)).trans hblk
  have hBW : B < W.heap.size := blk_lt hB
  have hne : B ≠ W.heap.size := by omega
  have c0 : W.cell? ⟨B, 0, none⟩ = some (.string m.f0) := (blk_cell hB 0).trans rfl
  have c1 : W.cell? ⟨B, 1, none⟩ = some (.int .i64 m.f1) := (blk_cell hB 1).trans rfl
  have c2 : W.cell? ⟨B, 2, none⟩ = some (.int .i64 m.f2) := (blk_cell hB 2).trans rfl
  have c3 : W.cell? ⟨B, 3, none⟩ = some (.int .i64 m.f3) := (blk_cell hB 3).trans rfl
  have c4 : W.cell? ⟨B, 4, none⟩ = some (.int .i64 m.f4) := (blk_cell hB 4).trans rfl
  have c5 : W.cell? ⟨B, 5, none⟩ = some (.int .i64 m.f5) := (blk_cell hB 5).trans rfl
  have c6 : W.cell? ⟨B, 6, none⟩ = some (.string m.f6) := (blk_cell hB 6).trans rfl
  have HB := Lib.hid (And.intro hb hB)
  obtain ⟨r, hr⟩ : ∃ r, cmpM x m = r := ⟨_, rfl⟩
  have hc := QB.message_compare.calls 4 x.f0 x.f1 x.f2 x.f3 x.f4 x.f5 x.f6 m.f0 m.f1 m.f2 m.f3 m.f4 m.f5 m.f6 r
  have HC := Lib.hid (fun w0 => hc w0 (by rw [cmpM_f, hr]))
  show Calls Tryd.prog 41 #[.agg #[.string x.f0, .int .i64 x.f1, .int .i64 x.f2, .int .i64 x.f3, .int .i64 x.f4, .int .i64 x.f5, .string x.f6], .pointer (some ⟨B, 0, none⟩)] W fun e w' => e = .returned (.bool (decide (cmpM x m = 0))) ∧ Below w.heap.size w w'
  rw [hr]
  clear hb hB hblk hc hr
  go_enter Tryd.func41, Tryd.ntmps41
  go_wp2_with (go_at_call 42; refine (HC.out _).mono ?_; rintro e w' ⟨rfl, hb1⟩; have HB1 := Lib.hid hb1; clear hb1)
  go_ret
  exact ⟨by first | rfl | (rw [show (r == 0) = decide (r = 0) from rfl]; rfl), below_then (below_alloc (Below.refl _ _) _) (by rw [World.size_alloc]; omega) HB1.out |> fun h => below_then HB.out.1 HB.out.1.size h⟩
set_option maxHeartbeats 4000000 in
set_option maxRecDepth 100000 in
/-- The second closure: a place behind it. -/
theorem clo_gt (m : S23) (B : Nat) (w : World) (hblk : w.heap[B]? = some (.cells (encM m).toArray 23 (0, 0))) :
    PredBelow Tryd.prog 44 #[.pointer (some ⟨B, 0, none⟩)] (fun x => .agg (encM x).toArray) (fun x => decide (cmpM x m > 0)) w := fun W x hb => by
  have hu23 := Tryd.underlying23
  have hB : W.heap[B]? = some (.cells (encM m).toArray 23 (0, 0)) := (hb.block B (blk_lt hblk)).trans hblk
  have hBW : B < W.heap.size := blk_lt hB
  have hne : B ≠ W.heap.size := by omega
  have c0 : W.cell? ⟨B, 0, none⟩ = some (.string m.f0) := (blk_cell hB 0).trans rfl
  have c1 : W.cell? ⟨B, 1, none⟩ = some (.int .i64 m.f1) := (blk_cell hB 1).trans rfl
  have c2 : W.cell? ⟨B, 2, none⟩ = some (.int .i64 m.f2) := (blk_cell hB 2).trans rfl
  have c3 : W.cell? ⟨B, 3, none⟩ = some (.int .i64 m.f3) := (blk_cell hB 3).trans rfl
  have c4 : W.cell? ⟨B, 4, none⟩ = some (.int .i64 m.f4) := (blk_cell hB 4).trans rfl
  have c5 : W.cell? ⟨B, 5, none⟩ = some (.int .i64 m.f5) := (blk_cell hB 5).trans rfl
  have c6 : W.cell? ⟨B, 6, none⟩ = some (.string m.f6) := (blk_cell hB 6).trans rfl
  have HB := Lib.hid (And.intro hb hB)
  obtain ⟨r, hr⟩ : ∃ r, cmpM x m = r := ⟨_, rfl⟩
  have hc := QB.message_compare.calls 4 x.f0 x.f1 x.f2 x.f3 x.f4 x.f5 x.f6 m.f0 m.f1 m.f2 m.f3 m.f4 m.f5 m.f6 r
  have HC := Lib.hid (fun w0 => hc w0 (by rw [cmpM_f, hr]))
  show Calls Tryd.prog 44 #[.agg #[.string x.f0, .int .i64 x.f1, .int .i64 x.f2, .int .i64 x.f3, .int .i64 x.f4, .int .i64 x.f5, .string x.f6], .pointer (some ⟨B, 0, none⟩)] W fun e w' => e = .returned (.bool (decide (cmpM x m > 0))) ∧ Below w.heap.size w w'
  rw [hr]
  clear hb hB hblk hc hr
  go_enter Tryd.func44, Tryd.ntmps44
  go_wp2_with (go_at_call 42; refine (HC.out _).mono ?_; rintro e w' ⟨rfl, hb1⟩; have HB1 := Lib.hid hb1; clear hb1)
  go_ret
  exact ⟨rfl, below_then (below_alloc (Below.refl _ _) _) (by rw [World.size_alloc]; omega) HB1.out |> fun h => below_then HB.out.1 HB.out.1.size h⟩
set_option maxRecDepth 100000 in
theorem isAggM : ∀ w, (isAgg 23).run Tryd.prog w = .ok true w := fun w => by rfl
set_option maxRecDepth 100000 in
theorem sizeOfM : ∀ w, (Go.sizeOf 23).run Tryd.prog w = .ok 7 w := fun w => by rfl
theorem spot_none {w : World} {a : Addr} {v : Value} (h : w.cell? a = some v) : a = ⟨a.block, a.off, none⟩ := by
  unfold World.cell? at h
  obtain ⟨b, o, s⟩ := a
  cases s with
  | none => rfl
  | some k =>
    simp at h
    split at h <;> cases h
set_option maxHeartbeats 4000000 in
set_option maxRecDepth 100000 in
/-- slices.IndexFunc of messages, at any predicate. -/
theorem idx_calls (p : S23 → Bool) (g : Nat) (lb : Array Value) (eg : ∀ args w, (callFunc g args).run Tryd.prog w = .ok (.enter g args) w) (A : Option Addr) (c : Nat) (l : List S23) (w : World)
    (hC : Kd.C k23 w A l.length l) (hp : PredBelow Tryd.prog g lb (fun x => .agg (encM x).toArray) p w) :
    Calls Tryd.prog 40 #[.slice A l.length c, .func (.func g) #[] lb] w fun e w' => e = .returned (.int .i64 (Lib.idxBy (fun _ y => p y) l default)) ∧ Below w.heap.size w w' := by
  obtain ⟨h1, h2, h3⟩ := hC
  cases l with
  | nil =>
    clear hp h1 h2 h3
    show Calls Tryd.prog 40 #[.slice A 0 c, .func (.func g) #[] lb] w fun e w' => e = .returned (.int .i64 (-1)) ∧ Below w.heap.size w w'
    go_enter Tryd.func40, Tryd.ntmps40
    go_wp2
    go_loopw [8] (fun v8 wr => v8 = .int .i64 0 ∧ wr = w) (fun _ _ => 0)
    case atStart => exact ⟨rfl, rfl⟩
    case round =>
      obtain ⟨rfl, rfl⟩ := hrel
      go_wp2
      go_ret
      exact ⟨rfl, Below.refl _ _⟩
  | cons x r =>
    obtain ⟨ad, rfl, hcells⟩ := h3 (by simp)
    obtain ⟨cs0, hl0, hK0, hc0⟩ := hcells 0 x rfl
    obtain rfl := k23_open hK0
    have hc00 := hc0 0 (.string x.f0) rfl
    have hc01 : w.cell? ad = some (.string x.f0) := by simpa [Addr.add] using hc00
    have hlt := World.block_lt_of_cell? _ _ hc01
    obtain ⟨b, off, hb⟩ : ∃ b off, ad = ⟨b, off, none⟩ := ⟨_, _, spot_none hc01⟩
    subst hb
    have hcon := AnyQ.slices_IndexFunc Tryd.lIdx 7 isAggM sizeOfM encM (fun _ => rfl) p g lb eg b off (x :: r).length c (x :: r) w hp (Nat.le_refl _) h2 hlt (fun j hj i v hi => by
      obtain ⟨cs1, hl1, hK1, hc1⟩ := hcells j (x :: r)[j]! (by rw [List.getElem!_eq_getElem?_getD, List.getElem?_eq_getElem hj]; rfl)
      have e1 := k23_open hK1
      subst e1
      have h5 := hc1 i v hi
      rw [Addr.add_lit, ← Nat.add_assoc] at h5
      exact h5)
    rw [show (x :: r).take (x :: r).length = x :: r from List.take_length] at hcon
    exact hcon
end Go.Proofs.YthmlibimhdeocaaDoor

