/- PureMessageReceives: what the law MessageReceives asks of it. -/
import Derived.Test.YthmlibimhdeocaaDoorReMsgLawR
import Derived.Test.YthmlibimhdeocaaDoorReQDx10
namespace Go.Proofs.YthmlibimhdeocaaDoor.Pure
open Go Go.RowKit Go.Proofs.YthmlibimhdeocaaDoor Go.Proofs.YthmlibimhdeocaaDoor.QD Go.Proofs.YthmlibimhdeocaaDoorW.PrintWords
set_option linter.unusedVariables false
set_option linter.unusedSimpArgs false

theorem sameA_l0 (l : List S23) (hl : l.length ≤ 281474976710656) : ∀ (d k i : Nat), l.length - i = d → i ≤ l.length → d + 1 ≤ k → corebankref43_SameAll.l0 k l l (i : Int) = some true
  | d, 0, i, _, _, hk => by omega
  | d, k + 1, i, hd, hi, hk => by
    simp only [corebankref43_SameAll.l0]
    by_cases h : i < l.length
    · rw [if_pos (by omega), if_pos (by omega), if_pos (by omega), if_neg (by simp), w64s i (by omega)]
      exact sameA_l0 l hl (d - 1) k (i + 1) (by omega) (by omega) (by omega)
    · rw [if_neg (by omega)]
theorem sameA_ev (l : List S23) (hl : l.length ≤ 281474976710656) (k : Nat) (hk : l.length + 1 ≤ k) : corebankref43_SameAll.f k l l = some true := by
  unfold corebankref43_SameAll.f
  rw [if_pos rfl]
  exact sameA_l0 l hl l.length k 0 (by omega) (by omega) hk
theorem MessageReceives : ∀ (a0 : List S23) (a1 : S23), a0.length * 72 ≤ 140737488351232 → (∀ x ∈ a0, okM x) → okM a1 → ∃ k, QD.corebanklaw43_MessageReceives.f k a0 a1.f0 a1.f1 a1.f2 a1.f3 a1.f4 a1.f5 a1.f6 = some true := by
  intro l m hll ho hm
  refine ⟨l.length + 30001, ?_⟩
  have out : corebanklaw43_MessageReceives.j0 (l.length + 30001) l true m.f0 m.f1 m.f2 m.f3 m.f4 m.f5 m.f6 = some true := by
    simp only [corebanklaw43_MessageReceives.j0]
    rw [if_pos trivial]
  unfold corebanklaw43_MessageReceives.f
  rw [great_ev l _ (by omega), Option.bind_some]
  by_cases hg : greatB l = true
  · rw [if_pos hg]
    exact out
  rw [if_neg hg, great_eq m, Option.bind_some]
  by_cases hb : big m = true
  · rw [hb]
    exact out
  obtain ⟨hl, hf⟩ := great_fit ho (by simpa using hg)
  obtain ⟨-, h0, h6⟩ := big_fit hm (by simpa using hb)
  have hb' : big m = false := by simpa using hb
  rw [hb']
  obtain ⟨k, hk⟩ : ∃ k, l.length + 30001 = k + 1 := ⟨l.length + 30000, rfl⟩
  rw [hk]
  simp only [corebanklaw43_MessageReceives.j0]
  rw [if_neg (by simp), recv_eq l m (by omega) (by omega) (by omega), Option.bind_some, rrecv_ev l m (by omega) (by omega) (by omega) k (by omega), Option.bind_some]
  obtain ⟨A, hA⟩ : ∃ A, (if chkM m = 0 then recvM l m else ([], false, chkM m)) = A := ⟨_, rfl⟩
  have hAl : A.1.length ≤ l.length + 1 := by
    rw [← hA]
    split
    · exact recv_len l m
    · simp
  rw [hA, if_pos (by simp), if_pos rfl, sameA_ev A.1 (by omega) k (by omega), Option.bind_some, if_pos rfl, live_some]
  rfl
end Go.Proofs.YthmlibimhdeocaaDoor.Pure

