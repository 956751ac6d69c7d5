/- PureMessageOrders: what the law MessageOrders asks of it. -/
import Derived.Test.YthmlibimhdeocaaDoorOrMsgLawS
import Derived.Test.YthmlibimhdeocaaDoorOrQDx14
namespace Go.Proofs.YthmlibimhdeocaaDoor.Pure
open Go Go.RowKit Go.Proofs.YthmlibimhdeocaaDoor Go.Proofs.YthmlibimhdeocaaDoor.QD Go.Proofs.YthmlibimhdeocaaDoorW.PrintWords
set_option linter.unusedVariables false
set_option linter.unusedSimpArgs false

/-- All places differ. -/
def apartM (l : List S23) : Prop := l.Pairwise fun a b => cmpM a b ≠ 0
/-- Received in turn, the places all different: in order, and none but those that are accepted. -/
theorem fold_spec : ∀ (more acc : List S23), acc.length + more.length < 4096 → acc.Pairwise ltM → apartM more → (∀ y ∈ acc, ∀ m ∈ more, cmpM y m ≠ 0) →
    (more.foldl stepM acc).Pairwise ltM ∧ ∀ x, x ∈ more.foldl stepM acc ↔ x ∈ acc ∨ (x ∈ more ∧ chkM x = 0)
  | [], acc, _, hs, _, _ => ⟨hs, fun x => by simp⟩
  | m :: r, acc, hl, hs, hd, hn => by
    obtain ⟨d1, d2⟩ := List.pairwise_cons.1 hd
    simp only [List.length_cons] at hl
    rw [List.foldl_cons]
    have hnm : ∀ y ∈ acc, cmpM y m ≠ 0 := fun y hy => hn y hy m List.mem_cons_self
    by_cases hc : chkM m = 0
    · have e : stepM acc m = insM m acc := by
        unfold stepM
        rw [if_pos hc, recvM_new (by omega) hnm]
        rfl
      rw [e]
      obtain ⟨s1, s2⟩ := fold_spec r (insM m acc) (by rw [ins_len]; omega) (ins_sorted hs hnm) d2 (fun y hy z hz => by
        rcases ins_mem.1 hy with rfl | hy
        · exact d1 z hz
        · exact hn y hy z (List.mem_cons_of_mem _ hz))
      refine ⟨s1, fun x => ?_⟩
      rw [s2 x, ins_mem, List.mem_cons]
      constructor
      · rintro ((rfl | h) | h)
        · exact .inr ⟨.inl rfl, hc⟩
        · exact .inl h
        · exact .inr ⟨.inr h.1, h.2⟩
      · rintro (h | ⟨rfl | h, h2⟩)
        · exact .inl (.inr h)
        · exact .inl (.inl rfl)
        · exact .inr ⟨h, h2⟩
    · have e : stepM acc m = acc := by
        unfold stepM
        rw [if_neg hc]
      rw [e]
      obtain ⟨s1, s2⟩ := fold_spec r acc (by omega) hs d2 (fun y hy z hz => hn y hy z (List.mem_cons_of_mem _ hz))
      refine ⟨s1, fun x => ?_⟩
      rw [s2 x, List.mem_cons]
      constructor
      · rintro (h | h)
        · exact .inl h
        · exact .inr ⟨.inr h.1, h.2⟩
      · rintro (h | ⟨rfl | h, h2⟩)
        · exact .inl h
        · exact absurd h2 hc
        · exact .inr ⟨h, h2⟩
theorem fold_same {a b : List S23} (hl : a.length < 4096) (hlb : b.length < 4096) (ha : apartM a) (hb : apartM b) (h : ∀ x, x ∈ a ↔ x ∈ b) : a.foldl stepM [] = b.foldl stepM [] := by
  obtain ⟨s1, s2⟩ := fold_spec a [] (by simpa using hl) (by simp) ha (by simp)
  obtain ⟨t1, t2⟩ := fold_spec b [] (by simpa using hlb) (by simp) hb (by simp)
  refine sorted_unique s1 t1 (fun x => ?_)
  rw [s2 x, t2 x, h x]
theorem ordered_l0 (l : List S23) (hl : l.length ≤ 100000) (hs : l.Pairwise ltM) : ∀ (d k i : Nat), l.length - i = d → 1 ≤ i → d + 1 ≤ k → corebanklaw43_ordered.l0 k l (i : Int) = some true
  | d, 0, i, _, _, hk => by omega
  | d, k + 1, i, hd, hi, hk => by
    simp only [corebanklaw43_ordered.l0]
    by_cases h : i < l.length
    · have e1 : wrap64 ((i : Int) - 1) = ((i - 1 : Nat) : Int) := by rw [w64 (by omega) (by omega)]; omega
      rw [if_pos (by omega), e1, if_pos (by omega), if_pos (by omega), if_pos (by omega), less_eq (rd_T23 l ((i - 1 : Nat) : Int)) (rd_T23 l (i : Int)), Option.bind_some]
      have hlt : ltM l[i - 1] l[i] := List.pairwise_iff_getElem.1 hs (i - 1) i (by omega) h (by omega)
      have r1 : rd_T23 l ((i - 1 : Nat) : Int) = l[i - 1] := by
        unfold rd_T23
        rw [Int.toNat_natCast, List.getD_eq_getElem?_getD, List.getElem?_eq_getElem (by omega)]
        rfl
      have r2 : rd_T23 l (i : Int) = l[i] := by
        unfold rd_T23
        rw [Int.toNat_natCast, List.getD_eq_getElem?_getD, List.getElem?_eq_getElem h]
        rfl
      have hp : cmpM (rd_T23 l (i : Int)) (rd_T23 l ((i - 1 : Nat) : Int)) > 0 := by rw [r1, r2]; exact hlt
      rw [if_pos (decide_eq_true hp), w64s i (by omega)]
      exact ordered_l0 l hl hs (d - 1) k (i + 1) (by omega) (by omega) (by omega)
    · rw [if_neg (by omega)]
theorem ordered_ev (l : List S23) (hl : l.length ≤ 100000) (hs : l.Pairwise ltM) (k : Nat) (hk : l.length + 1 ≤ k) : corebanklaw43_ordered.f k l = some true :=
  ordered_l0 l hl hs (l.length - 1) k 1 rfl (by omega) (by omega)
/-- Behind the comparison of all pairs. -/
theorem orders_j3 (l : List S23) (hl : l.length ≤ 30) (hf : ∀ m ∈ l, m.f0.size ≤ 1000 ∧ m.f6.size ≤ 1000) (hd : apartM l) (c : Nat) (hc : c ≤ l.length) (k : Nat) (hk : 200 ≤ k) : corebanklaw43_MessageOrders.j3 k l (c : Int) = some true := by
  obtain ⟨k, rfl⟩ : ∃ n, k = n + 1 := ⟨k - 1, by omega⟩
  simp only [corebanklaw43_MessageOrders.j3]
  simp only [Option.bind_some, Int.toNat_natCast, List.nil_append, List.length_nil]
  have e1 : (l.drop c).length + (l.take c).length = l.length := by rw [List.length_drop, List.length_take]; omega
  rw [if_pos (by omega), if_pos (by omega), if_pos (by omega), if_pos (by omega)]
  have hmem : ∀ x, x ∈ l ↔ x ∈ l.drop c ++ l.take c := fun x => by
    rw [List.mem_append]
    constructor
    · intro h
      rw [← List.take_append_drop c l, List.mem_append] at h
      exact h.symm
    · rintro (h | h)
      · exact List.mem_of_mem_drop h
      · exact List.mem_of_mem_take h
  have hd2 : apartM (l.drop c ++ l.take c) := by
    have h0 : apartM (l.take c ++ l.drop c) := by rw [List.take_append_drop]; exact hd
    obtain ⟨p1, p2, p3⟩ := List.pairwise_append.1 h0
    exact List.pairwise_append.2 ⟨p2, p1, fun a ha b hb => cmpM_symm (p3 b hb a ha)⟩
  have hlen2 : (l.drop c ++ l.take c).length = l.length := by rw [List.length_append]; exact e1
  rw [received_ev [] l (by simp) (by omega) hf k (by omega), Option.bind_some, received_ev [] (l.drop c ++ l.take c) (by simp) (by omega) (fun m hm => hf m ((hmem m).2 hm)) k (by omega), Option.bind_some]
  rw [← fold_same (by omega) (by omega) hd hd2 hmem]
  have hs := (fold_spec l [] (by simp; omega) (by simp) hd (by simp)).1
  have hfl := fold_len l []
  rw [List.length_nil, Nat.zero_add] at hfl
  rw [ordered_ev _ (by omega) hs k (by omega), Option.bind_some, if_pos rfl, sameB_ev _ (by omega) k (by omega), Option.bind_some, if_pos rfl, live_some]
  rfl
theorem rd_at (l : List S23) (i : Nat) (h : i < l.length) : rd_T23 l (i : Int) = l[i] := by
  unfold rd_T23
  rw [Int.toNat_natCast, List.getD_eq_getElem?_getD, List.getElem?_eq_getElem h]
  rfl
theorem orders_l1 (l : List S23) (hl : l.length ≤ 30) (x : Int) (i K : Nat) (hi : i < l.length) (hnext : (∀ j, (hj : j < i) → cmpM l[i] l[j] ≠ 0) → ∀ k, K ≤ k → corebanklaw43_MessageOrders.l0 k l x (((i + 1 : Nat)) : Int) = some true) :
    ∀ (d k j : Nat), i - j = d → j ≤ i → (∀ j', (h : j' < j) → ∀ h2 : j' < l.length, cmpM l[i] l[j'] ≠ 0) → d + K + 1 ≤ k → corebanklaw43_MessageOrders.l1 k l x (i : Int) (j : Int) = some true
  | d, 0, j, _, _, _, hk => by omega
  | d, k + 1, j, hd, hj, hap, hk => by
    simp only [corebanklaw43_MessageOrders.l1]
    by_cases h : j < i
    · rw [if_pos (by omega), if_pos (by omega), if_pos (by omega), if_pos (by omega), if_pos (by omega), rd_at l i hi, rd_at l j (by omega), w64s j (by omega)]
      have go : cmpM l[i] l[j] ≠ 0 → corebanklaw43_MessageOrders.l1 k l x (i : Int) (((j + 1 : Nat)) : Int) = some true := fun hne =>
        orders_l1 l hl x i K hi hnext (d - 1) k (j + 1) (by omega) (by omega) (fun j' h' h2 => by
          by_cases e : j' = j
          · subst e; exact hne
          · exact hap j' (by omega) h2) (by omega)
      by_cases h1 : l[i].f0.toList = l[j].f0.toList
      · rw [if_pos h1]
        by_cases h2 : l[i].f1 = l[j].f1
        · rw [if_pos h2]
        · rw [if_neg h2]
          exact go (fun h3 => h2 ((cmpM_zero _ _).1 h3).2)
      · rw [if_neg h1]
        exact go (fun h3 => h1 (by rw [((cmpM_zero _ _).1 h3).1]))
    · obtain rfl : j = i := by omega
      rw [if_neg (by omega), w64s j (by omega)]
      exact hnext (fun j' hj' => hap j' hj' (by omega)) k (by omega)
set_option maxRecDepth 100000 in
theorem orders_l0 (l : List S23) (hl : l.length ≤ 30) (hl0 : 0 < l.length) (hf : ∀ m ∈ l, m.f0.size ≤ 1000 ∧ m.f6.size ≤ 1000) (x : Int) (hx : i64R x) : ∀ (d k i : Nat), l.length - i = d → i ≤ l.length → (∀ a b, (ha : a < i) → (hb : b < a) → ∀ h1 : a < l.length, cmpM l[a] l[b] ≠ 0) → d * 100 + 300 ≤ k →
    corebanklaw43_MessageOrders.l0 k l x (i : Int) = some true
  | d, 0, i, _, _, _, hk => by omega
  | d, k + 1, i, hd, hi, hap, hk => by
    simp only [corebanklaw43_MessageOrders.l0]
    by_cases h : i < l.length
    · rw [if_pos (by omega)]
      refine orders_l1 l hl x i ((d - 1) * 100 + 300) h (fun hnew k' hk' => ?_) i k 0 (Nat.sub_zero _) (Nat.zero_le _) (fun j' h' => absurd h' (Nat.not_lt_zero _)) (by omega)
      exact orders_l0 l hl hl0 hf x hx (d - 1) k' (i + 1) (by omega) (by omega) (fun a b ha hb h1 => by
        by_cases e : a = i
        · subst e; exact hnew b hb
        · exact hap a b (by omega) hb h1) hk'
    · obtain rfl : i = l.length := by omega
      have hdd : apartM l := List.pairwise_iff_getElem.2 (fun a b ha hb hab => cmpM_symm (hap b a hb hab hb))
      rw [if_neg (by omega), if_neg (by omega)]
      have t1 := Int.tmod_lt_of_pos x (show (0 : Int) < (l.length : Int) by omega)
      have t2 := Int.lt_tmod_of_pos x (show (0 : Int) < (l.length : Int) by omega)
      generalize Int.tmod x (l.length : Int) = q at t1 t2 ⊢
      by_cases hq : q < 0
      · rw [if_pos hq, w64 (by omega) (by omega)]
        have := orders_j3 l hl hf hdd (q + (l.length : Int)).toNat (by omega) k (by omega)
        rw [show (((q + (l.length : Int)).toNat : Nat) : Int) = q + (l.length : Int) by omega] at this
        exact this
      · rw [if_neg hq]
        have := orders_j3 l hl hf hdd q.toNat (by omega) k (by omega)
        rw [show ((q.toNat : Nat) : Int) = q by omega] at this
        exact this
theorem MessageOrders : ∀ (a0 : List S23) (a1 : Int), a0.length * 72 ≤ 140737488351232 → (∀ x ∈ a0, okM x) → (Lit.int .i64 a1).wf = true → ∃ k, QD.corebanklaw43_MessageOrders.f k a0 a1 = some true := by
  intro l x _ ho hx
  have out : ∀ k, corebanklaw43_MessageOrders.j0 (k + 1) l x true = some true := fun k => by
    simp only [corebanklaw43_MessageOrders.j0]
    rw [if_pos trivial]
  by_cases hg : greatB l = true
  · refine ⟨l.length + 1, ?_⟩
    unfold corebanklaw43_MessageOrders.f
    rw [great_ev l _ (Nat.le_refl _), Option.bind_some, if_pos hg]
    exact out _
  obtain ⟨hl60, hf⟩ := great_fit ho (by simpa using hg)
  by_cases h30 : (l.length : Int) > 30
  · refine ⟨l.length + 1, ?_⟩
    unfold corebanklaw43_MessageOrders.f
    rw [great_ev l _ (Nat.le_refl _), Option.bind_some, if_neg hg, if_pos h30]
    exact out _
  by_cases h0 : (l.length : Int) = 0
  · refine ⟨l.length + 1, ?_⟩
    unfold corebanklaw43_MessageOrders.f
    rw [great_ev l _ (Nat.le_refl _), Option.bind_some, if_neg hg, if_neg h30, beq_iff_eq.2 h0]
    exact out _
  · refine ⟨l.length * 100 + 302, ?_⟩
    unfold corebanklaw43_MessageOrders.f
    rw [great_ev l _ (by omega), Option.bind_some, if_neg hg, if_neg h30, beq_eq_false_iff_ne.2 h0]
    show corebanklaw43_MessageOrders.j0 (l.length * 100 + 301 + 1) l x false = _
    simp only [corebanklaw43_MessageOrders.j0]
    rw [if_neg (by simp)]
    have := orders_l0 l (by omega) (by omega) (fun m hm => (hf m hm).2) x (wfi hx) l.length (l.length * 100 + 301) 0 (Nat.sub_zero _) (Nat.zero_le _) (fun a b ha => absurd ha (Nat.not_lt_zero a)) (by omega)
    exact this
end Go.Proofs.YthmlibimhdeocaaDoor.Pure

