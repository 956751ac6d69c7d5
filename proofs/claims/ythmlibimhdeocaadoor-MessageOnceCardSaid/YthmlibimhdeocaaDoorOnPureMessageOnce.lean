/- PureMessageOnce: what the law MessageOnce asks of it. -/
import Derived.Test.YthmlibimhdeocaaDoorOnMsgLawS
import Derived.Test.YthmlibimhdeocaaDoorOnQDx15
namespace Go.Proofs.YthmlibimhdeocaaDoor.Pure
open Go Go.RowKit Go.Proofs.YthmlibimhdeocaaDoor Go.Proofs.YthmlibimhdeocaaDoor.QD Go.Proofs.YthmlibimhdeocaaDoorW.PrintWords
set_option linter.unusedVariables false
set_option linter.unusedSimpArgs false

theorem sameM_iff (x y : S23) : sameM x y = true ↔ x = y := by
  unfold sameM
  constructor
  · intro h
    simp only [Bool.and_eq_true, beq_iff_eq] at h
    obtain ⟨h0, h1, h2, h3, h4, h5, h6⟩ := h
    have e0 := list_inj h0
    have e6 := list_inj h6
    cases x
    cases y
    simp only at e0 h1 h2 h3 h4 h5 e6
    subst e0 h1 h2 h3 h4 h5 e6
    rfl
  · rintro rfl
    simp
/-- The first message with m's place is m. -/
def heldM (m : S23) (l : List S23) : Prop := l.find? (fun y => decide (cmpM y m = 0)) = some m
theorem idx_find (m : S23) : ∀ (l : List S23) (i : Nat), (Lib.idxByFrom (fun _ y => decide (cmpM y m = 0)) default l i = -1 ∧ ∀ y ∈ l, cmpM y m ≠ 0) ∨
    ∃ j y, Lib.idxByFrom (fun _ y => decide (cmpM y m = 0)) default l i = ((i + j : Nat) : Int) ∧ l[j]? = some y ∧ l.find? (fun y => decide (cmpM y m = 0)) = some y
  | [], i => .inl ⟨idx_nil _ _ _, by simp⟩
  | y :: r, i => by
    rw [idx_cons, List.find?_cons]
    by_cases h : cmpM y m = 0
    · right
      rw [decide_eq_true h, if_pos rfl]
      exact ⟨0, y, by simp, rfl, rfl⟩
    · rw [decide_eq_false h, if_neg (by simp)]
      rcases idx_find m r (i + 1) with ⟨h1, h2⟩ | ⟨j, z, h1, h2, h3⟩
      · left
        refine ⟨h1, fun x hx => ?_⟩
        rcases List.mem_cons.1 hx with rfl | hx
        · exact h
        · exact h2 x hx
      · right
        exact ⟨j + 1, z, by rw [h1]; omega, h2, h3⟩
theorem cmp_self (m : S23) : cmpM m m = 0 := (cmpM_zero m m).2 ⟨rfl, rfl⟩
theorem find_ins (m : S23) : ∀ l : List S23, (∀ y ∈ l, cmpM y m ≠ 0) → heldM m (insM m l)
  | [], _ => by
    unfold heldM insM
    rw [List.find?_cons, decide_eq_true (cmp_self m)]
  | y :: r, h => by
    unfold heldM insM
    split
    · rw [List.find?_cons, decide_eq_true (cmp_self m)]
    · rw [List.find?_cons, decide_eq_false (h y List.mem_cons_self)]
      exact find_ins m r (fun z hz => h z (List.mem_cons_of_mem _ hz))
theorem find_other (m z : S23) (hz : cmpM z m ≠ 0) : ∀ l : List S23, (insM z l).find? (fun y => decide (cmpM y m = 0)) = l.find? (fun y => decide (cmpM y m = 0))
  | [] => by
    unfold insM
    rw [List.find?_cons, decide_eq_false hz]
  | y :: r => by
    unfold insM
    split
    · rw [List.find?_cons, decide_eq_false hz]
    · rw [List.find?_cons, List.find?_cons, find_other m z hz r]
theorem rd_some {l : List S23} {j : Nat} {y : S23} (h : l[j]? = some y) : rd_T23 l (j : Int) = y := by
  unfold rd_T23
  rw [Int.toNat_natCast, List.getD_eq_getElem?_getD, h]
  rfl
/-- A message that is there is received again: nothing changes. -/
theorem recv_held {m : S23} {l : List S23} (h : heldM m l) (x : S23) (h0 : x.f0 = m.f0) (h1 : x.f1 = m.f1) : recvM l x = if sameM m x = true then (l, false, 0) else ([], false, 13) := by
  have hp : (fun (_ y : S23) => decide (cmpM y x = 0)) = (fun _ y => decide (cmpM y m = 0)) := by
    funext _ y
    have : (cmpM y x = 0) ↔ (cmpM y m = 0) := by rw [cmpM_zero, cmpM_zero, h0, h1]
    simp only [this]
  rw [recvM_eq, hp]
  unfold Lib.idxBy
  rcases idx_find m l 0 with ⟨h2, h3⟩ | ⟨j, y, h2, h3, h4⟩
  · have := List.mem_of_find?_eq_some h
    exact absurd (cmp_self m) (h3 m this)
  · unfold heldM at h
    rw [h] at h4
    obtain rfl := Option.some.inj h4
    rw [Nat.zero_add] at h2
    rw [h2, if_pos (by omega), rd_some h3]
theorem recv_cases {l : List S23} (hl : l.length < 4096) (z : S23) : (recvM l z = (insM z l, true, 0) ∧ ∀ y ∈ l, cmpM y z ≠ 0) ∨ recvM l z = (l, false, 0) ∨ recvM l z = ([], false, 13) := by
  rw [recvM_eq]
  unfold Lib.idxBy
  rcases idx_find z l 0 with ⟨h2, h3⟩ | ⟨j, y, h2, h3, h4⟩
  · left
    rw [h2, if_neg (by omega), if_neg (by omega)]
    have hn := newM_ins z l []
    rw [List.nil_append, List.nil_append, List.length_nil] at hn
    exact ⟨hn, h3⟩
  · right
    rw [h2, if_pos (by omega)]
    split
    · exact .inl rfl
    · exact .inr rfl
theorem step_held {m : S23} {l : List S23} (hl : l.length < 4096) (h : heldM m l) (z : S23) : heldM m (stepM l z) := by
  unfold stepM
  split
  · rcases recv_cases hl z with ⟨e, h3⟩ | e | e
    · rw [e, if_pos rfl]
      have hm := List.mem_of_find?_eq_some h
      show (insM z l).find? _ = some m
      rw [find_other m z (cmpM_symm (h3 m hm)) l]
      exact h
    · rw [e, if_pos rfl]
      exact h
    · rw [e, if_neg (show ¬ ((13 : Int) = 0) by decide)]
      exact h
  · exact h
theorem fold_held {m : S23} : ∀ (more l : List S23), l.length + more.length < 4096 → heldM m l → heldM m (more.foldl stepM l)
  | [], l, _, h => h
  | z :: r, l, hl, h => by
    simp only [List.length_cons] at hl
    rw [List.foldl_cons]
    have := step_len l z
    exact fold_held r (stepM l z) (by omega) (step_held (by omega) h z)
/-- A message that has been accepted is there. -/
theorem recv_first {m : S23} {l : List S23} (hl : l.length < 4096) (h : (recvM l m).2.2 = 0) : heldM m (recvM l m).1 := by
  rw [recvM_eq] at h ⊢
  unfold Lib.idxBy at h ⊢
  rcases idx_find m l 0 with ⟨h2, h3⟩ | ⟨j, y, h2, h3, h4⟩
  · rw [h2, if_neg (by omega), if_neg (by omega)]
    have hn := newM_ins m l []
    rw [List.nil_append, List.nil_append, List.length_nil] at hn
    rw [hn]
    exact find_ins m l h3
  · rw [Nat.zero_add] at h2
    rw [h2, if_pos (by omega), rd_some h3] at h ⊢
    by_cases hs : sameM y m = true
    · rw [if_pos hs]
      have e := (sameM_iff y m).1 hs
      show l.find? _ = some m
      rw [h4, e]
    · rw [if_neg hs] at h
      exact absurd h (by decide)
theorem chk_other {m : S23} (h : chkM m = 0) : chkM ⟨m.f0, m.f1, m.f2, m.f3, Int.tmod m.f4 2 + 1, Int.tdiv m.f5 2, m.f6⟩ = 0 ∧ 1 ≤ m.f4 ∧ m.f4 ≤ 1000000000000 ∧ 0 ≤ m.f5 ∧ m.f5 ≤ 73048 := by
  unfold chkM at h
  by_cases hn : nameB m.f0 = true
  · rw [if_pos hn] at h
    by_cases hc : 1 ≤ m.f1 ∧ m.f1 ≤ 1000000000 ∧ 1 ≤ m.f2 ∧ m.f2 ≤ 3 ∧ 1000 ≤ m.f3 ∧ 1 ≤ m.f4 ∧ m.f4 ≤ 1000000000000 ∧ 0 ≤ m.f5 ∧ m.f5 ≤ 73048 ∧ textB m.f6 = true
    · obtain ⟨c1, c2, c3, c4, c5, c6, c7, c8, c9, c10⟩ := hc
      refine ⟨?_, c6, c7, c8, c9⟩
      have e1 : Int.tmod m.f4 2 = m.f4 % 2 := tmodn (by omega)
      have e2 : Int.tdiv m.f5 2 = m.f5 / 2 := tdivn c8
      unfold chkM
      rw [if_pos (show nameB m.f0 = true from hn), if_pos]
      refine ⟨c1, c2, c3, c4, c5, ?_, ?_, ?_, ?_, c10⟩
      · show 1 ≤ Int.tmod m.f4 2 + 1
        omega
      · show Int.tmod m.f4 2 + 1 ≤ 1000000000000
        omega
      · show 0 ≤ Int.tdiv m.f5 2
        omega
      · show Int.tdiv m.f5 2 ≤ 73048
        omega
    · rw [if_neg hc] at h
      exact absurd h (by decide)
  · rw [if_neg hn] at h
    exact absurd h (by decide)
theorem once_j1 (A : List S23) (hA : A.length ≤ 4000) (m : S23) (h0 : m.f0.size ≤ 1000) (h6 : m.f6.size ≤ 1000) (hc : chkM m = 0) (hh : heldM m A) (k : Nat) (hk : 5000 ≤ k) :
    corebanklaw43_MessageOnce.j1 k A false m.f0 m.f1 m.f2 m.f3 m.f4 m.f5 m.f6 = some true := by
  obtain ⟨k, rfl⟩ : ∃ n, k = n + 1 := ⟨k - 1, by omega⟩
  obtain ⟨hcx, c6, c7, c8, c9⟩ := chk_other hc
  have e1 : Int.tmod m.f4 2 = m.f4 % 2 := tmodn (by omega)
  have e2 : Int.tdiv m.f5 2 = m.f5 / 2 := tdivn c8
  simp only [corebanklaw43_MessageOnce.j1]
  rw [if_neg (by simp)]
  have w4 : wrap64 (Int.tmod m.f4 2 + 1) = Int.tmod m.f4 2 + 1 := w64 (by omega) (by omega)
  have w5 : wrap64 (Int.tdiv m.f5 2) = Int.tdiv m.f5 2 := w64 (by omega) (by omega)
  rw [w4, w5]
  obtain ⟨x, hx⟩ : ∃ x : S23, x = ⟨m.f0, m.f1, m.f2, m.f3, Int.tmod m.f4 2 + 1, Int.tdiv m.f5 2, m.f6⟩ := ⟨_, rfl⟩
  have hr : message_Receive.f A m.f0 m.f1 m.f2 m.f3 (Int.tmod m.f4 2 + 1) (Int.tdiv m.f5 2) m.f6 = some (recvM A x) := by
    have := recv_eq A x (by omega) (by rw [hx]; show m.f0.size ≤ 4000; omega) (by rw [hx]; show m.f6.size ≤ 4000; omega)
    rw [if_pos (by rw [hx]; exact hcx)] at this
    rw [hx] at this ⊢
    exact this
  rw [hr, Option.bind_some, recv_held hh x (by rw [hx]) (by rw [hx])]
  have hs : sameM m x = (Int.tmod m.f4 2 + 1 == m.f4 && Int.tdiv m.f5 2 == m.f5) := by
    rw [hx]
    unfold sameM
    simp only [beq_self_eq_true, Bool.true_and, Bool.and_true]
    rw [BEq.comm (a := m.f4), BEq.comm (a := m.f5)]
  rw [hs]
  by_cases hb : (Int.tmod m.f4 2 + 1 == m.f4 && Int.tdiv m.f5 2 == m.f5) = true
  · rw [if_pos hb, if_pos hb, if_neg (by simp), if_pos rfl, sameB_ev A (by omega) k (by omega), Option.bind_some, if_pos rfl, live_some]
    rfl
  · rw [if_neg hb, if_neg hb, if_neg (by simp), if_pos rfl, if_pos (show (([] : List S23).length : Int) = 0 from rfl), live_some]
    rfl
theorem MessageOnce : ∀ (a0 : List S23) (a1 : List S23) (a2 : S23), a0.length * 72 ≤ 140737488351232 → (∀ x ∈ a0, okM x) → a1.length * 72 ≤ 140737488351232 → (∀ x ∈ a1, okM x) → okM a2 → ∃ k, QD.corebanklaw43_MessageOnce.f k a0 a1 a2.f0 a2.f1 a2.f2 a2.f3 a2.f4 a2.f5 a2.f6 = some true := by
  intro l more m _ ho _ hom hm
  refine ⟨l.length + more.length + 6001, ?_⟩
  have out : corebanklaw43_MessageOnce.j0 (l.length + more.length + 6001) l more true m.f0 m.f1 m.f2 m.f3 m.f4 m.f5 m.f6 = some true := by
    simp only [corebanklaw43_MessageOnce.j0]
    rw [if_pos trivial]
  unfold corebanklaw43_MessageOnce.f
  rw [great_ev l _ (by omega), Option.bind_some]
  by_cases hg : greatB l = true
  · rw [if_pos hg]; exact out
  rw [if_neg hg, great_ev more _ (by omega), Option.bind_some]
  by_cases hgm : greatB more = true
  · rw [if_pos hgm]; exact out
  rw [if_neg hgm, great_eq m, Option.bind_some]
  by_cases hb : big m = true
  · rw [hb]; exact out
  have hb' : big m = false := by simpa using hb
  obtain ⟨hl, hf⟩ := great_fit ho (by simpa using hg)
  obtain ⟨hml, hfm⟩ := great_fit hom (by simpa using hgm)
  obtain ⟨-, h0, h6⟩ := big_fit hm hb'
  rw [hb']
  obtain ⟨k, hk⟩ : ∃ k, l.length + more.length + 6001 = k + 1 := ⟨l.length + more.length + 6000, rfl⟩
  rw [hk]
  simp only [corebanklaw43_MessageOnce.j0]
  rw [if_neg (by simp), recv_eq l m (by omega) (by omega) (by omega), Option.bind_some]
  by_cases hc : chkM m = 0
  · rw [if_pos hc]
    by_cases he : (recvM l m).2.2 = 0
    · rw [if_pos he]
      have hh := recv_first (by omega) he
      have hlen := recv_len l m
      rw [received_ev _ more (by omega) hml (fun z hz => (hfm z hz).2) k (by omega), Option.bind_some]
      have hA := fold_held more _ (by omega) hh
      have hAl := fold_len more (recvM l m).1
      generalize more.foldl stepM (recvM l m).1 = A at hA hAl ⊢
      have hs : sameM m m = true := (sameM_iff m m).2 rfl
      rw [recv_eq A m (by omega) (by omega) (by omega), Option.bind_some, if_pos hc, recv_held hA m rfl rfl, if_pos hs]
      rw [if_neg (by simp), if_pos rfl, sameB_ev A (by omega) k (by omega), Option.bind_some]
      exact once_j1 A (by omega) m h0 h6 hc hA k (by omega)
    · rw [if_neg he, live_some]
      rfl
  · rw [if_neg hc, if_neg (by exact hc), live_some]
    rfl
end Go.Proofs.YthmlibimhdeocaaDoor.Pure

