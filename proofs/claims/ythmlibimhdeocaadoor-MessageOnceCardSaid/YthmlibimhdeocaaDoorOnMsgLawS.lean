/- MsgLawS: what the law MessageOnce asks of it. -/
import Derived.Test.YthmlibimhdeocaaDoorOnMsgLawR
import Derived.Test.YthmlibimhdeocaaDoorOnQDx10
import Derived.Test.YthmlibimhdeocaaDoorOnQDx13
namespace Go.Proofs.YthmlibimhdeocaaDoor.Pure
open Go Go.RowKit Go.Proofs.YthmlibimhdeocaaDoor Go.Proofs.YthmlibimhdeocaaDoor.QD Go.Proofs.YthmlibimhdeocaaDoorW.PrintWords
set_option linter.unusedVariables false
set_option linter.unusedSimpArgs false

theorem sameB_l0 (l : List S23) (hl : l.length ≤ 281474976710656) : ∀ (d k i : Nat), l.length - i = d → i ≤ l.length → d + 1 ≤ k → corebankref43_SameAll.l0 k l l (i : Int) = some true
  | d, 0, i, _, _, hk => by omega
  | d, k + 1, i, hd, hi, hk => by
    simp only [corebankref43_SameAll.l0]
    by_cases h : i < l.length
    · rw [if_pos (by omega), if_pos (by omega), if_pos (by omega), if_neg (by simp), w64s i (by omega)]
      exact sameB_l0 l hl (d - 1) k (i + 1) (by omega) (by omega) (by omega)
    · rw [if_neg (by omega)]
theorem sameB_ev (l : List S23) (hl : l.length ≤ 281474976710656) (k : Nat) (hk : l.length + 1 ≤ k) : corebankref43_SameAll.f k l l = some true := by
  unfold corebankref43_SameAll.f
  rw [if_pos rfl]
  exact sameB_l0 l hl l.length k 0 (by omega) (by omega) hk
theorem cmpM_symm {a b : S23} (h : cmpM a b ≠ 0) : cmpM b a ≠ 0 := fun h2 => by
  have := (cmpM_zero b a).1 h2
  exact h ((cmpM_zero a b).2 ⟨this.1.symm, this.2.symm⟩)
/-- A message put in its place. -/
def insM (m : S23) : List S23 → List S23
  | [] => [m]
  | y :: r => if cmpM y m > 0 then m :: y :: r else y :: insM m r
theorem newM_ins (m : S23) : ∀ (l p : List S23), newM (p ++ l) m (Lib.idxByFrom (fun _ y => decide (cmpM y m > 0)) default l p.length) = (p ++ insM m l, true, 0)
  | [], p => by
    rw [idx_nil]
    unfold newM insM
    rw [if_pos (by omega), List.append_nil, List.take_length, List.drop_length]
  | y :: r, p => by
    rw [idx_cons]
    unfold insM
    by_cases h : cmpM y m > 0
    · rw [if_pos (decide_eq_true h), if_pos h]
      unfold newM
      rw [if_neg (by omega), Int.toNat_natCast, List.take_left, List.drop_left]
    · rw [if_neg (by simpa using h), if_neg h]
      have ih := newM_ins m r (p ++ [y])
      rw [List.length_append, List.length_singleton, List.append_assoc, List.append_assoc] at ih
      exact ih
/-- A message received; errors change nothing. -/
def stepM (l : List S23) (m : S23) : List S23 := if chkM m = 0 then (if (recvM l m).2.2 = 0 then (recvM l m).1 else l) else l
theorem step_len (l : List S23) (m : S23) : (stepM l m).length ≤ l.length + 1 := by
  unfold stepM
  split
  · split
    · exact recv_len l m
    · omega
  · omega
theorem received_l0 (more : List S23) (hm : more.length ≤ 60) (hf : ∀ m ∈ more, m.f0.size ≤ 1000 ∧ m.f6.size ≤ 1000) : ∀ (d k i : Nat) (l : List S23), more.length - i = d → i ≤ more.length → l.length ≤ 900000 + i → d + 1 ≤ k →
    corebanklaw43_received.l0 k l more (i : Int) = some ((more.drop i).foldl stepM l)
  | d, 0, i, l, _, _, _, hk => by omega
  | d, k + 1, i, l, hd, hi, hl, hk => by
    simp only [corebanklaw43_received.l0]
    by_cases h : i < more.length
    · have hmem := rd_mem more i h
      obtain ⟨h0, h6⟩ := hf _ hmem
      rw [if_pos (by omega), if_pos (by omega), recv_eq l (rd_T23 more (i : Int)) (by omega) (by omega) (by omega), Option.bind_some, drop_rd more i h, List.foldl_cons, w64s i (by omega)]
      have hs := step_len l (rd_T23 more (i : Int))
      have ih := fun l' hl' => received_l0 more hm hf (d - 1) k (i + 1) l' (by omega) (by omega) hl' (by omega)
      generalize rd_T23 more (i : Int) = m at hs ⊢
      unfold stepM at hs ⊢
      by_cases hc : chkM m = 0
      · rw [if_pos hc] at hs
        rw [if_pos hc, if_pos hc]
        by_cases he : (recvM l m).2.2 = 0
        · rw [if_pos he] at hs
          rw [if_pos he, if_pos he]
          exact ih _ (by omega)
        · rw [if_neg he, if_neg he]
          exact ih _ (by omega)
      · rw [if_neg hc, if_neg hc]
        rw [if_neg (by exact hc)]
        exact ih _ (by omega)
    · rw [if_neg (by omega), List.drop_eq_nil_of_le (by omega)]
      rfl
theorem received_ev (l more : List S23) (hl : l.length ≤ 900000) (hm : more.length ≤ 60) (hf : ∀ m ∈ more, m.f0.size ≤ 1000 ∧ m.f6.size ≤ 1000) (k : Nat) (hk : more.length + 1 ≤ k) : corebanklaw43_received.f k l more = some (more.foldl stepM l) := by
  have := received_l0 more hm hf more.length k 0 l rfl (by omega) (by omega) hk
  rw [List.drop_zero] at this
  exact this
theorem fold_len : ∀ (more l : List S23), (more.foldl stepM l).length ≤ l.length + more.length
  | [], l => by simp
  | m :: r, l => by
    rw [List.foldl_cons]
    have := fold_len r (stepM l m)
    have := step_len l m
    simp only [List.length_cons]
    omega
end Go.Proofs.YthmlibimhdeocaaDoor.Pure

