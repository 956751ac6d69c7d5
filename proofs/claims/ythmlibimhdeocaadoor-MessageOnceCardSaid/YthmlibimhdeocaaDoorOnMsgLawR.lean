/- MsgLawR: what the law MessageOnce asks of it. -/
import Derived.Test.YthmlibimhdeocaaDoorOnMsgLawC
import Derived.Test.YthmlibimhdeocaaDoorOnQDx0
import Derived.Test.YthmlibimhdeocaaDoorOnQDx1
import Derived.Test.YthmlibimhdeocaaDoorOnQDx8
namespace Go.Proofs.YthmlibimhdeocaaDoor.Pure
open Go Go.RowKit Go.Proofs.YthmlibimhdeocaaDoor Go.Proofs.YthmlibimhdeocaaDoor.QD Go.Proofs.YthmlibimhdeocaaDoorW.PrintWords
set_option linter.unusedVariables false
set_option linter.unusedSimpArgs false

theorem recv_eq (l : List S23) (m : S23) (hl : l.length ≤ 1000000) (h0 : m.f0.size ≤ 4000) (h6 : m.f6.size ≤ 4000) :
    message_Receive.f l m.f0 m.f1 m.f2 m.f3 m.f4 m.f5 m.f6 = some (if chkM m = 0 then recvM l m else ([], false, chkM m)) := by
  unfold message_Receive.f
  rw [if_pos hl, check_eq m h0 h6, Option.bind_some]
  split <;> rfl
theorem cmpT_zero (a b : ByteArray) : cmpT a b = 0 ↔ a.toList = b.toList := by
  have h := bytesLess_tri a.toList b.toList
  unfold cmpT
  by_cases h1 : Op.bytesLess a.toList b.toList = true
  · rw [if_pos h1]
    constructor
    · intro h2; omega
    · intro h2
      rw [h2] at h1 h
      rw [h1] at h
      simp at h
  · rw [if_neg h1]
    simp only [Bool.not_eq_true] at h1
    rw [h1, Bool.false_or] at h
    by_cases h2 : a.toList = b.toList
    · rw [beq_iff_eq.2 h2] at h
      rw [if_neg (by rw [h]; simp)]
      exact ⟨fun _ => h2, fun _ => rfl⟩
    · rw [beq_eq_false_iff_ne.2 h2] at h
      rw [if_pos (by rw [h]; rfl)]
      exact ⟨fun h3 => by omega, fun h3 => absurd h3 h2⟩
theorem list_inj {a b : ByteArray} (h : a.toList = b.toList) : a = b := by
  rw [toList_eqv, toList_eqv] at h
  exact list_eq h
theorem cmpM_zero (x m : S23) : cmpM x m = 0 ↔ x.f0 = m.f0 ∧ x.f1 = m.f1 := by
  unfold cmpM
  by_cases h : cmpT x.f0 m.f0 = 0
  · rw [if_pos h]
    have e := list_inj ((cmpT_zero _ _).1 h)
    unfold cmpI
    constructor
    · intro h2
      refine ⟨e, ?_⟩
      split at h2
      · omega
      · split at h2
        · omega
        · omega
    · rintro ⟨-, h2⟩
      rw [if_neg (by omega), if_neg (by omega)]
  · rw [if_neg h]
    constructor
    · intro h2; exact absurd h2 h
    · rintro ⟨h2, -⟩; exact absurd ((cmpT_zero _ _).2 (by rw [h2])) h
/-- A new message put in its place. -/
def newM (l : List S23) (m : S23) (j : Int) : List S23 × Bool × Int :=
  if j < 0 then (l.take l.length ++ m :: l.drop l.length, true, 0) else (l.take j.toNat ++ m :: l.drop j.toNat, true, 0)
theorem recvM_eq (l : List S23) (m : S23) : recvM l m = if 0 ≤ Lib.idxBy (fun _ y => decide (cmpM y m = 0)) l default then
    (if sameM (rd_T23 l (Lib.idxBy (fun _ y => decide (cmpM y m = 0)) l default)) m = true then (l, false, 0) else ([], false, 13))
  else if 4096 ≤ l.length then ([], false, 5) else newM l m (Lib.idxBy (fun _ y => decide (cmpM y m > 0)) l default) := by
  unfold recvM newM
  rfl
theorem idx_cons {α : Type} (p : α → α → Bool) (d y : α) (r : List α) (i : Nat) : Lib.idxByFrom p d (y :: r) i = if p d y = true then (i : Int) else Lib.idxByFrom p d r (i + 1) := by rw [Lib.idxByFrom]
theorem idx_nil {α : Type} (p : α → α → Bool) (d : α) (i : Nat) : Lib.idxByFrom p d [] i = -1 := by rw [Lib.idxByFrom]
theorem recv_len (l : List S23) (m : S23) : (recvM l m).1.length ≤ l.length + 1 := by
  rw [recvM_eq]
  split
  · split
    · exact Nat.le_succ _
    · simp
  · split
    · simp
    · unfold newM
      split <;> (simp only [List.length_append, List.length_cons, List.length_take, List.length_drop]; omega)
end Go.Proofs.YthmlibimhdeocaaDoor.Pure

