/- PureEntryJoins: what the law EntryJoins asks of it. -/
import Derived.Test.YtkfgnjdchnpjeaaDoorEjEntLawD
import Derived.Test.YtkfgnjdchnpjeaaDoorEjQDx22
namespace Go.Proofs.YtkfgnjdchnpjeaaDoor.Pure
open Go Go.RowKit Go.Proofs.YtkfgnjdchnpjeaaDoor Go.Proofs.YtkfgnjdchnpjeaaDoor.QD Go.Proofs.YtkfgnjdchnpjeaaDoorW.PrintWords
set_option linter.unusedVariables false
set_option linter.unusedSimpArgs false

theorem liveJ : corebanklaw19_live.f = some true := rfl
theorem money_ext {x y : S44} (h0 : x.f0 = y.f0) (h1 : x.f1 = y.f1) : x = y := by
  cases x; cases y; simp_all
theorem money_eq (y x : S44) : ((y.f0.toList == x.f0.toList) && (y.f1 == x.f1)) = true ↔ y = x := by
  rw [Bool.and_eq_true, beq_iff_eq, beq_iff_eq]
  constructor
  · rintro ⟨h0, h1⟩
    exact money_ext (list_inj h0) h1
  · rintro rfl
    exact ⟨rfl, rfl⟩
theorem joins_l0 (n : List S46) (a b : List S44) (ha : a.length ≤ 1000) (hb : b.length ≤ 1000) : ∀ (d k p i : Nat), a.length - i = d → i ≤ a.length → p ≤ b.length → 2 * d + 2 ≤ k →
    sortedK cfY (fun y => y.f0) (a.drop i) → sortedK cfY (fun y => y.f0) (b.drop p) → (∀ y ∈ b.drop p, y ∈ a.drop i) → (∀ x ∈ a.drop i, x ∈ b.drop p ∨ x.f1 = 0) →
    ∃ k', k ≤ k' + 2 * d + 1 ∧ corebanklaw19_EntryJoins.l0 k n a b (p : Int) (i : Int) = corebanklaw19_EntryJoins.l1 k' n b (b.length : Int) 0
  | d, 0, p, i, _, _, _, hk, _, _, _, _ => by omega
  | d, 1, p, i, _, _, _, hk, _, _, _, _ => by omega
  | d, k + 2, p, i, hd, hi, hp, hk, hsa, hsb, hba, hab => by
    simp only [corebanklaw19_EntryJoins.l0]
    by_cases h : i < a.length
    · obtain ⟨x, hx, hr, -⟩ := rdY_drop a i h
      rw [if_pos (by omega), hr]
      rw [hx] at hsa hba hab
      obtain ⟨hs1, hs2⟩ := List.pairwise_cons.1 hsa
      -- the amount is not there: it is zero, and the rest holds what is looked for
      have miss : x ∉ b.drop p → ∃ k', k + 1 ≤ k' + 2 * d ∧ corebanklaw19_EntryJoins.j1 (k + 1) n a b (p : Int) (i : Int) false = corebanklaw19_EntryJoins.l1 k' n b (b.length : Int) 0 := fun hm => by
        have hz : x.f1 = 0 := (hab x List.mem_cons_self).resolve_left hm
        simp only [corebanklaw19_EntryJoins.j1]
        rw [if_neg (by simp), if_pos (by omega), if_pos (by omega), hr, if_pos hz, w64s i (by omega)]
        obtain ⟨k', h1, h2⟩ := joins_l0 n a b ha hb (d - 1) k p (i + 1) (by omega) (by omega) hp (by omega) hs2 hsb (fun y hy => by
          rcases List.mem_cons.1 (hba y hy) with rfl | q
          · exact absurd hy hm
          · exact q) (fun z hz => hab z (List.mem_cons_of_mem _ hz))
        exact ⟨k', by omega, h2⟩
      by_cases hpb : p < b.length
      · obtain ⟨y, hy, hry, -⟩ := rdY_drop b p hpb
        rw [if_pos (by omega), if_pos (by omega), if_pos (by omega), hry]
        rw [hy] at hsb hba hab miss
        obtain ⟨ht1, ht2⟩ := List.pairwise_cons.1 hsb
        by_cases he : y = x
        · rw [(money_eq y x).2 he]
          simp only [corebanklaw19_EntryJoins.j1]
          rw [if_pos trivial, w64s i (by omega), w64s p (by omega)]
          have hxx : ¬ cfY x x.f0 < 0 := by have := (cmpT_zero x.f0 x.f0).2 rfl; unfold cfY; omega
          obtain ⟨k', h1, h2⟩ := joins_l0 n a b ha hb (d - 1) k (p + 1) (i + 1) (by omega) (by omega) (by omega) (by omega) hs2 ht2 (fun z hz => by
            rcases List.mem_cons.1 (hba z (List.mem_cons_of_mem _ hz)) with rfl | q
            · exact absurd (by have := ht1 z hz; rw [he] at this; exact this) hxx
            · exact q) (fun z hz => by
            rcases hab z (List.mem_cons_of_mem _ hz) with q | q
            · rcases List.mem_cons.1 q with rfl | q
              · exact absurd (by have := hs1 z hz; rw [he] at this; exact this) hxx
              · exact .inl q
            · exact .inr q)
          exact ⟨k', by omega, h2⟩
        · rw [show ((y.f0.toList == x.f0.toList) && (y.f1 == x.f1)) = false from by
            rw [← Bool.not_eq_true, money_eq]
            exact he]
          obtain ⟨k', h1, h2⟩ := miss (fun hm => by
            rcases List.mem_cons.1 hm with e | hm
            · exact he e.symm
            · have h1 := ht1 x hm
              rcases List.mem_cons.1 (hba y List.mem_cons_self) with e | hya
              · exact he e
              · have h2 := hs1 y hya
                have h3 := ordY.trans y x y.f0 h1 h2
                have h4 := (cmpT_zero y.f0 y.f0).2 rfl
                unfold cfY at h3
                omega)
          exact ⟨k', by omega, h2⟩
      · rw [if_neg (by omega)]
        obtain ⟨k', h1, h2⟩ := miss (by rw [List.drop_eq_nil_of_le (by omega)]; simp)
        exact ⟨k', by omega, h2⟩
    · rw [if_neg (by omega)]
      have hbn : b.drop p = [] := by
        have ha0 : a.drop i = [] := List.drop_eq_nil_of_le (by omega)
        rw [ha0] at hba
        exact List.eq_nil_iff_forall_not_mem.2 (fun y hy => absurd (hba y hy) (by simp))
      have hpl : p = b.length := by
        have := congrArg List.length hbn
        rw [List.length_drop, List.length_nil] at this
        omega
      subst hpl
      exact ⟨k + 1, by omega, rfl⟩
theorem joins_l1 (n : List S46) (b : List S44) (hn : n.length ≤ 1000) (h0 : ∀ x ∈ n, x.f1 ≠ 0) (hnn : netS n = n) : ∀ (d k i : Nat), n.length - i = d → i ≤ n.length → d + 1100 ≤ k → corebanklaw19_EntryJoins.l1 k n b (b.length : Int) (i : Int) = some true
  | d, 0, i, _, _, hk => by omega
  | d, k + 1, i, hd, hi, hk => by
    simp only [corebanklaw19_EntryJoins.l1]
    by_cases h : i < n.length
    · obtain ⟨x, hx, hr, hm⟩ := rdL_drop n i h
      rw [if_pos (by omega), if_pos (by omega), hr, if_neg (h0 x hm), w64s i (by omega)]
      exact joins_l1 n b hn h0 hnn (d - 1) k (i + 1) (by omega) (by omega) (by omega)
    · rw [if_neg (by omega), if_pos trivial, net_eq _ (by omega), Option.bind_some, hnn, sameL_ev _ (by omega) _ (by omega), Option.bind_some, if_pos rfl, liveJ]
      rfl
theorem EntryJoins : ∀ (a0 : S25), okT25 140737488351232 a0 → ∃ k, QD.corebanklaw19_EntryJoins.f k a0.f0 a0.f1 a0.f2 a0.f3 a0.f4 a0.f5 a0.f6 a0.f7 a0.f8 a0.f9 = some true := by
  intro e he
  refine ⟨20000, ?_⟩
  unfold QD.corebanklaw19_EntryJoins.f
  rw [great_ev e _ (by omega), Option.bind_some]
  by_cases hg : greatB e = true
  · rw [if_pos hg, liveJ]
    rfl
  rw [if_neg hg]
  obtain ⟨-, -, -, -, -, -, h6, h7, h8, hL⟩ := great_fit he (by simpa using hg)
  generalize e.f8 = l at h8 hL
  have hI : ∀ x ∈ l, I64 x.f1 := fun x hx => (hL x hx).2.1
  have hnl := netS_len l
  have hsl := sumsS_len l
  have hsn := sumsS_len (netS l)
  rw [net_eq _ (by omega), Option.bind_some, sums_eq _ (by omega), Option.bind_some, sums_eq _ (by omega), Option.bind_some]
  have inA : ∀ c, (∃ p ∈ curs (netS l), p.1 = c) → ∃ p ∈ curs l, p.1 = c := by
    rintro c ⟨p, hp, rfl⟩
    obtain ⟨z, hz, rfl⟩ := List.mem_map.1 hp
    obtain ⟨q, hq, hqk⟩ := ((coll_inv l hI).2 (keyL z)).1 ⟨z, (keep_mem.1 hz).1, rfl⟩
    obtain ⟨x, hx, rfl⟩ := List.mem_map.1 hq
    refine ⟨(x.f2, x.f1), List.mem_map.2 ⟨x, hx, rfl⟩, ?_⟩
    have : (x.f0, x.f2) = (z.f0, z.f2) := hqk
    exact (Prod.mk.inj this).2
  have same : ∀ x ∈ sumsS l, ∀ y ∈ sumsS (netS l), y.f0 = x.f0 → y = x := fun x hx y hy hk => by
    refine money_ext hk ?_
    rw [(sums_inv l).1 x hx, (sums_inv (netS l)).1 y hy, hk, tot_net]
  obtain ⟨k', h1, h2⟩ := joins_l0 (netS l) (sumsS l) (sumsS (netS l)) (by omega) (by omega) (sumsS l).length 20000 0 0 rfl (by omega) (by omega) (by omega) (by rw [List.drop_zero]; exact sumsS_sorted l) (by rw [List.drop_zero]; exact sumsS_sorted _) (fun y hy => by
    rw [List.drop_zero] at hy ⊢
    obtain ⟨x, hx, hk⟩ := ((sums_inv l).2 y.f0).2 (inA _ (((sums_inv (netS l)).2 y.f0).1 ⟨y, hy, rfl⟩))
    rw [same x hx y hy hk.symm]
    exact hx) (fun x hx => by
    rw [List.drop_zero] at hx ⊢
    by_cases hc : ∃ p ∈ curs (netS l), p.1 = x.f0
    · obtain ⟨y, hy, hk⟩ := ((sums_inv (netS l)).2 x.f0).2 hc
      rw [← same x hx y hy hk]
      exact .inl hy
    · refine .inr ?_
      rw [(sums_inv l).1 x hx, ← tot_net, totA_none _ _ (fun p hp hk => hc ⟨p, hp, hk⟩), wrap_zero])
  have h3 : corebanklaw19_EntryJoins.l0 20000 (netS l) (sumsS l) (sumsS (netS l)) 0 0 = corebanklaw19_EntryJoins.l1 k' (netS l) (sumsS (netS l)) ((sumsS (netS l)).length : Int) 0 := h2
  rw [h3]
  exact joins_l1 (netS l) (sumsS (netS l)) (by omega) (fun x hx => (netS_mem hI hx).1) net_net (netS l).length k' 0 rfl (by omega) (by omega)
end Go.Proofs.YtkfgnjdchnpjeaaDoor.Pure

