/- MsgLawB: what the law MessageOnce asks of it. -/
import Derived.Test.YthmlibimhdeocaaDoorOnMsgLawA
import Derived.Test.YthmlibimhdeocaaDoorOnQDx2
import Derived.Test.YthmlibimhdeocaaDoorOnQDx8
namespace Go.Proofs.YthmlibimhdeocaaDoor.Pure
open Go.RowKit Go.Proofs.YthmlibimhdeocaaDoor Go.Proofs.YthmlibimhdeocaaDoor.QD Go.Proofs.YthmlibimhdeocaaDoorW.PrintWords
set_option linter.unusedVariables false
set_option linter.unusedSimpArgs false

def big (m : S23) : Bool := decide (1000 < m.f0.size) || decide (1000 < m.f6.size)
theorem great_eq (m : S23) : corebankref43_Great.f m.f0 m.f1 m.f2 m.f3 m.f4 m.f5 m.f6 = some (big m) := by
  unfold corebankref43_Great.f big
  by_cases h0 : 1000 < m.f0.size
  · rw [if_pos (by omega), decide_eq_true h0, Bool.true_or]
  · rw [if_neg (by omega), decide_eq_false h0, Bool.false_or]
    congr 1
    by_cases h6 : 1000 < m.f6.size
    · rw [decide_eq_true h6, decide_eq_true (by omega)]
    · rw [decide_eq_false h6, decide_eq_false (by omega)]
theorem big_fit {m : S23} (h : okM m) (hb : big m = false) : fitM m ∧ m.f0.size ≤ 1000 ∧ m.f6.size ≤ 1000 := by
  unfold big at hb
  simp only [Bool.or_eq_false_iff, decide_eq_false_iff_not] at hb
  exact ⟨fit_ok h (by omega) (by omega), by omega, by omega⟩
theorem drop_rd (l : List S23) (i : Nat) (h : i < l.length) : l.drop i = rd_T23 l (i : Int) :: l.drop (i + 1) := by
  rw [List.drop_eq_getElem_cons h]
  unfold rd_T23
  rw [Int.toNat_natCast, List.getD_eq_getElem?_getD, List.getElem?_eq_getElem h]
  rfl
theorem rd_mem (l : List S23) (i : Nat) (h : i < l.length) : rd_T23 l (i : Int) ∈ l := by
  have := drop_rd l i h
  exact List.mem_of_mem_drop (by rw [this]; exact List.mem_cons_self)
def greatB (l : List S23) : Bool := decide (60 < l.length) || l.any big
theorem great_l0 (l : List S23) (hl : l.length ≤ 60) : ∀ (d k i : Nat), l.length - i = d → i ≤ l.length → d + 1 ≤ k → corebankref43_GreatAll.l0 k l (i : Int) = some ((l.drop i).any big)
  | d, 0, i, _, _, hk => by omega
  | d, k + 1, i, hd, hi, hk => by
    simp only [corebankref43_GreatAll.l0]
    by_cases h : i < l.length
    · rw [if_pos (by omega), if_pos (by omega), great_eq, Option.bind_some, drop_rd l i h, List.any_cons]
      by_cases hb : big (rd_T23 l (i : Int)) = true
      · rw [if_pos hb, hb, Bool.true_or]
      · rw [if_neg hb, w64s i (by omega), great_l0 l hl (d - 1) k (i + 1) (by omega) (by omega) (by omega)]
        simp only [Bool.not_eq_true] at hb
        rw [hb, Bool.false_or]
    · rw [if_neg (by omega), List.drop_eq_nil_of_le (by omega)]
      rfl
theorem great_ev (l : List S23) (k : Nat) (hk : l.length + 1 ≤ k) : corebankref43_GreatAll.f k l = some (greatB l) := by
  unfold corebankref43_GreatAll.f greatB
  by_cases h : 60 < l.length
  · rw [if_pos (by omega), decide_eq_true h, Bool.true_or]
  · rw [if_neg (by omega), decide_eq_false h, Bool.false_or]
    have := great_l0 l (by omega) l.length k 0 (by omega) (by omega) hk
    rw [List.drop_zero] at this
    exact this
theorem great_fit {l : List S23} (ho : ∀ m ∈ l, okM m) (h : greatB l = false) : l.length ≤ 60 ∧ ∀ m ∈ l, fitM m ∧ m.f0.size ≤ 1000 ∧ m.f6.size ≤ 1000 := by
  unfold greatB at h
  simp only [Bool.or_eq_false_iff, decide_eq_false_iff_not] at h
  refine ⟨by omega, fun m hm => big_fit (ho m hm) ?_⟩
  have := List.any_eq_false.1 h.2 m hm
  simpa using this
theorem live_some : corebanklaw43_live.f = some true := rfl
end Go.Proofs.YthmlibimhdeocaaDoor.Pure

