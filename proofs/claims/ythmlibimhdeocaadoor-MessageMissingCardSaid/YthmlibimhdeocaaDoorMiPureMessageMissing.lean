/- PureMessageMissing: what the law MessageMissing asks of it. -/
import Derived.Test.YthmlibimhdeocaaDoorMiMsgLawB
import Derived.Test.YthmlibimhdeocaaDoorMiQDx12
namespace Go.Proofs.YthmlibimhdeocaaDoor.Pure
open Go.RowKit Go.Proofs.YthmlibimhdeocaaDoor Go.Proofs.YthmlibimhdeocaaDoor.QD Go.Proofs.YthmlibimhdeocaaDoorW.PrintWords
set_option linter.unusedVariables false
set_option linter.unusedSimpArgs false

theorem has_l0 (s : ByteArray) (x : Int) (l : List S23) (hl : l.length ≤ 60) : ∀ (d k i : Nat), l.length - i = d → i ≤ l.length → d + 1 ≤ k → corebankref43_has.l0 k l s x (i : Int) = some (hasM s (l.drop i) x)
  | d, 0, i, _, _, hk => by omega
  | d, k + 1, i, hd, hi, hk => by
    simp only [corebankref43_has.l0]
    by_cases h : i < l.length
    · rw [if_pos (by omega), if_pos (by omega), drop_rd l i h]
      have ih := has_l0 s x l hl (d - 1) k (i + 1) (by omega) (by omega) (by omega)
      unfold hasM at ih ⊢
      rw [List.any_cons]
      generalize rd_T23 l (i : Int) = y
      by_cases h1 : y.f0.toList = s.toList
      · rw [if_pos h1]
        have e1 : isS s y = true := by unfold isS; rw [h1]; exact beq_self_eq_true _
        by_cases h2 : y.f1 = x
        · rw [if_pos h2, e1, h2, beq_self_eq_true, Bool.and_self, Bool.true_or]
        · rw [if_neg h2, w64s i (by omega), ih, e1, Bool.true_and, beq_eq_false_iff_ne.2 h2, Bool.false_or]
      · rw [if_neg h1, w64s i (by omega), ih]
        have e1 : isS s y = false := by unfold isS; exact beq_eq_false_iff_ne.2 h1
        rw [e1, Bool.false_and, Bool.false_or]
    · rw [if_neg (by omega), List.drop_eq_nil_of_le (by omega)]
      rfl
theorem has_ev (s : ByteArray) (x : Int) (l : List S23) (hl : l.length ≤ 60) (k : Nat) (hk : l.length + 1 ≤ k) : corebankref43_has.f k l s x = some (hasM s l x) := by
  have := has_l0 s x l hl l.length k 0 (by omega) (by omega) hk
  rw [List.drop_zero] at this
  exact this
/-- The greatest number of a sender, from one on. -/
def grtF (s : ByteArray) (g : Int) (l : List S23) : Int := l.foldl (fun g m => if isS s m = true then (if g < m.f1 then m.f1 else g) else g) g
theorem grtF_cons (s : ByteArray) (g : Int) (m : S23) (r : List S23) : grtF s g (m :: r) = grtF s (if isS s m = true then (if g < m.f1 then m.f1 else g) else g) r := rfl
theorem grtF_zero (s : ByteArray) (l : List S23) : grtF s 0 l = grtM s l := rfl
/-- At most as many of the first n numbers are there as there are messages. -/
theorem count_has (s : ByteArray) (n : Nat) : ∀ l : List S23, ((iota n).filter fun x => hasM s l x).length ≤ l.length
  | [] => by simp [hasM]
  | m :: r => by
    have ih := count_has s n r
    have h1 : ∀ (xs : List Int), (xs.filter fun x => hasM s (m :: r) x).length ≤ (xs.filter fun x => m.f1 == x).length + (xs.filter fun x => hasM s r x).length := by
      intro xs
      induction xs with
      | nil => simp
      | cons x ys ihx =>
        have e : hasM s (m :: r) x = ((isS s m && m.f1 == x) || hasM s r x) := by unfold hasM; rw [List.any_cons]
        simp only [List.filter_cons, e]
        cases isS s m <;> cases (m.f1 == x) <;> cases hasM s r x <;> simp <;> omega
    have h2 : ((iota n).filter fun x => m.f1 == x).length ≤ 1 := by
      have hnd : ((iota n).filter fun x => m.f1 == x).Nodup := (iota_nodup n).filter _
      have hall : ∀ x ∈ ((iota n).filter fun x => m.f1 == x), x = m.f1 := fun x hx => by
        have := (List.mem_filter.1 hx).2
        simp only [beq_iff_eq] at this
        exact this.symm
      match hL : ((iota n).filter fun x => m.f1 == x) with
      | [] => simp
      | [x] => simp
      | x :: y :: t =>
        exfalso
        rw [hL] at hnd hall
        have a := hall x (by simp)
        have b := hall y (by simp)
        rw [a, b] at hnd
        simp at hnd
    have := h1 (iota n)
    simp only [List.length_cons]
    omega
theorem count_not (s : ByteArray) (n : Nat) (l : List S23) : n ≤ ((iota n).filter fun x => !(hasM s l x)).length + l.length := by
  have h1 := count_has s n l
  have h2 : ∀ xs : List Int, xs.length = (xs.filter fun x => hasM s l x).length + (xs.filter fun x => !(hasM s l x)).length := by
    intro xs
    induction xs with
    | nil => rfl
    | cons x ys ih =>
      simp only [List.filter_cons, List.length_cons]
      cases hasM s l x <;> simp <;> omega
  have := h2 (iota n)
  rw [iota_len] at this
  omega
/-- The numbers that are missing. -/
def missR (s : ByteArray) (l : List S23) : List Int := ((iota (grtM s l).toNat).filter fun x => !(hasM s l x)).take 4096
theorem rmiss_l1 (s : ByteArray) (l : List S23) (hl : l.length ≤ 60) (g : Nat) : ∀ (d k n : Nat), g - n = d → n ≤ g → ((iota n).filter fun x => !(hasM s l x)).length ≤ 4096 → 2 * d + l.length + 6 ≤ k →
    corebankref43_Missing.l1 k l s (g : Int) ((iota n).filter fun x => !(hasM s l x)) ((n : Int) + 1) = some (((iota g).filter fun x => !(hasM s l x)).take 4096)
  | d, 0, n, _, _, _, hk => by omega
  | d, 1, n, _, _, _, hk => by omega
  | d, k + 2, n, hd, hn, hlen, hk => by
    simp only [corebankref43_Missing.l1]
    by_cases h : n < g
    · rw [if_pos (by omega)]
      by_cases h2 : ((iota n).filter fun x => !(hasM s l x)).length < 4096
      · have hcn := count_not s n l
        rw [decide_eq_true (by omega)]
        simp only [corebankref43_Missing.j2]
        rw [if_pos trivial, has_ev s _ l hl k (by omega), Option.bind_some]
        have hnx : ((iota (n + 1)).filter fun x => !(hasM s l x)) = ((iota n).filter fun x => !(hasM s l x)) ++ (if (!(hasM s l ((n : Int) + 1))) = true then [(n : Int) + 1] else []) := by
          rw [iota_succ, List.filter_append, List.filter_cons, List.filter_nil]
        have hw : wrap64 ((n : Int) + 1 + 1) = ((n + 1 : Nat) : Int) + 1 := by rw [w64 (by omega) (by omega)]; omega
        by_cases hp : hasM s l ((n : Int) + 1) = true
        · rw [if_pos hp, hw]
          rw [if_neg (by rw [hp]; simp), List.append_nil] at hnx
          have ih := rmiss_l1 s l hl g (d - 1) k (n + 1) (by omega) (by omega) (by rw [hnx]; omega) (by omega)
          rw [hnx] at ih
          exact ih
        · rw [if_neg hp, if_pos (by omega), hw]
          rw [if_pos (by simpa using hp)] at hnx
          have ih := rmiss_l1 s l hl g (d - 1) k (n + 1) (by omega) (by omega) (by rw [hnx, List.length_append, List.length_singleton]; omega) (by omega)
          rw [hnx] at ih
          exact ih
      · rw [decide_eq_false (by omega)]
        simp only [corebankref43_Missing.j2]
        rw [if_neg (by simp), take_filter _ g n hn (.inr (by omega)) hlen]
    · rw [if_neg (by omega)]
      simp only [corebankref43_Missing.j2]
      rw [if_neg (by simp), take_filter _ g n hn (.inl (by omega)) hlen]
theorem rmiss_l0 (s : ByteArray) (l : List S23) (hl : l.length ≤ 60) (hr : ∀ m ∈ l, i64R m.f1) (G : Nat) : ∀ (d k i : Nat) (g : Int), l.length - i = d → i ≤ l.length → 0 ≤ g → grtF s g (l.drop i) = (G : Int) → 2 * G + l.length + d + 8 ≤ k →
    corebankref43_Missing.l0 k l s g (i : Int) = some (((iota G).filter fun x => !(hasM s l x)).take 4096)
  | d, 0, i, g, _, _, _, _, hk => by omega
  | d, k + 1, i, g, hd, hi, hg, hG, hk => by
    simp only [corebankref43_Missing.l0]
    by_cases h : i < l.length
    · rw [if_pos (by omega), if_pos (by omega)]
      rw [drop_rd l i h, grtF_cons] at hG
      have hw := w64s i (by omega)
      generalize rd_T23 l (i : Int) = y at hG ⊢
      by_cases h1 : y.f0.toList = s.toList
      · have e1 : isS s y = true := by unfold isS; rw [h1]; exact beq_self_eq_true _
        rw [if_pos e1] at hG
        rw [if_pos h1, hw]
        have hmx : mx g y.f1 = if g < y.f1 then y.f1 else g := by unfold mx; rfl
        rw [hmx]
        exact rmiss_l0 s l hl hr G (d - 1) k (i + 1) _ (by omega) (by omega) (by split <;> omega) hG (by omega)
      · have e1 : ¬ isS s y = true := by unfold isS; simpa using h1
        rw [if_neg e1] at hG
        rw [if_neg h1, hw]
        exact rmiss_l0 s l hl hr G (d - 1) k (i + 1) _ (by omega) (by omega) hg hG (by omega)
    · rw [if_neg (by omega)]
      rw [List.drop_eq_nil_of_le (by omega)] at hG
      have hG' : g = (G : Int) := hG
      subst hG'
      have := rmiss_l1 s l hl G G k 0 (by omega) (by omega) (by simp [iota]) (by omega)
      simpa [iota] using this
theorem rmiss_ev (s : ByteArray) (l : List S23) (hl : l.length ≤ 60) (hr : ∀ m ∈ l, i64R m.f1) : ∃ K, ∀ k, K ≤ k → corebankref43_Missing.f k l s = some (missR s l) := by
  have h0 := grtM_nonneg s l
  refine ⟨2 * (grtM s l).toNat + l.length + l.length + 8, fun k hk => ?_⟩
  have := rmiss_l0 s l hl hr (grtM s l).toNat l.length k 0 0 (by omega) (by omega) (by omega) (by rw [List.drop_zero, grtF_zero]; omega) (by omega)
  exact this
/-- Both limits give the same numbers. -/
theorem miss_same (s : ByteArray) (l : List S23) : ((iota (lastM s l).toNat).filter fun x => !(hasM s l x)).take 4096 = missR s l := by
  unfold missR lastM
  split
  · next h =>
    have hcn := count_not s (4096 + l.length) l
    have hg := grtM_nonneg s l
    have e : (4096 + (l.length : Int)).toNat = 4096 + l.length := by omega
    rw [e]
    have hpre : ∀ N, 4096 + l.length ≤ N → ∃ r, (iota N).filter (fun x => !(hasM s l x)) = (iota (4096 + l.length)).filter (fun x => !(hasM s l x)) ++ r := by
      intro N
      induction N with
      | zero => intro hN; omega
      | succ N ih =>
        intro hN
        by_cases hh : 4096 + l.length = N + 1
        · rw [hh]; exact ⟨[], by simp⟩
        · obtain ⟨r, hr⟩ := ih (by omega)
          rw [iota_succ, List.filter_append, hr]
          exact ⟨_, List.append_assoc _ _ _⟩
    obtain ⟨r, hr⟩ := hpre (grtM s l).toNat (by omega)
    rw [hr, List.take_append_of_le_length (by omega)]
  · rfl
theorem sameI_l0 (l : List Int) (hl : l.length ≤ 281474976710656) : ∀ (d k i : Nat), l.length - i = d → i ≤ l.length → d + 1 ≤ k → corebankref07_SameInts.l0 k l l (i : Int) = some true
  | d, 0, i, _, _, hk => by omega
  | d, k + 1, i, hd, hi, hk => by
    simp only [corebankref07_SameInts.l0]
    by_cases h : i < l.length
    · rw [if_pos (by omega), if_pos (by omega), if_pos (by omega), if_pos trivial, w64s i (by omega)]
      exact sameI_l0 l hl (d - 1) k (i + 1) (by omega) (by omega) (by omega)
    · rw [if_neg (by omega)]
theorem sameI_ev (l : List Int) (hl : l.length ≤ 281474976710656) (k : Nat) (hk : l.length + 1 ≤ k) : corebankref07_SameInts.f k l l = some true := by
  unfold corebankref07_SameInts.f
  rw [if_pos rfl]
  exact sameI_l0 l hl l.length k 0 (by omega) (by omega) hk
/-- In order. -/
theorem iota_sorted : ∀ n, (iota n).Pairwise (· < ·)
  | 0 => by simp [iota]
  | n + 1 => by
    rw [iota_succ, List.pairwise_append]
    refine ⟨iota_sorted n, by simp, fun a ha b hb => ?_⟩
    have := iota_mem.1 ha
    obtain rfl : b = (n : Int) + 1 := by simpa using hb
    omega
theorem missR_sorted (s : ByteArray) (l : List S23) : (missR s l).Pairwise (· < ·) := ((iota_sorted _).filter _).sublist (List.take_sublist _ _)
theorem missR_mem {s : ByteArray} {l : List S23} {x : Int} (h : x ∈ missR s l) : 1 ≤ x ∧ x ≤ grtM s l := by
  have h1 := List.mem_of_mem_take h
  have := iota_mem.1 (List.mem_filter.1 h1).1
  have := grtM_nonneg s l
  omega
theorem missR_len (s : ByteArray) (l : List S23) : (missR s l).length ≤ 4096 := by
  unfold missR
  rw [List.length_take]
  omega
theorem rd_get (l : List Int) (i : Nat) (h : i < l.length) : rd l (i : Int) = l[i] := by
  unfold rd
  rw [Int.toNat_natCast, List.getD_eq_getElem?_getD, List.getElem?_eq_getElem h]
  rfl
theorem law_l1 (s : ByteArray) (l : List S23) (g : Int) (xs : List Int) (hlen : xs.length ≤ 4096) (hs : xs.Pairwise (· < ·)) (hm : ∀ x ∈ xs, 1 ≤ x ∧ x ≤ g) (K : Nat) (hR : ∀ k, K ≤ k → corebankref43_Missing.f k l s = some xs) :
    ∀ (d k i : Nat), xs.length - i = d → i ≤ xs.length → d + K + xs.length + 2 ≤ k → corebanklaw43_MessageMissing.l1 k l s xs g (i : Int) = some true
  | d, 0, i, _, _, hk => by omega
  | d, k + 1, i, hd, hi, hk => by
    simp only [corebanklaw43_MessageMissing.l1]
    by_cases h : i < xs.length
    · have hx := hm _ (List.getElem_mem h)
      rw [if_pos (by omega), if_pos (by omega), rd_get xs i h, if_neg (by omega), if_neg (by omega)]
      have ih := law_l1 s l g xs hlen hs hm K hR (d - 1) k (i + 1) (by omega) (by omega) (by omega)
      have hw := w64s i (by omega)
      by_cases h0 : i = 0
      · rw [if_neg (by omega), hw]
        exact ih
      · have e1 : wrap64 ((i : Int) - 1) = ((i - 1 : Nat) : Int) := by rw [w64 (by omega) (by omega)]; omega
        have hlt : xs[i - 1] < xs[i] := List.pairwise_iff_getElem.1 hs (i - 1) i (by omega) h (by omega)
        rw [if_pos (by omega), e1, if_pos (by omega), if_pos (by omega), rd_get xs (i - 1) (by omega), if_neg (by omega), hw]
        exact ih
    · rw [if_neg (by omega), hR k (by omega), Option.bind_some, sameI_ev xs (by omega) k (by omega)]
      rfl
theorem law_l0 (s : ByteArray) (l : List S23) (hl : l.length ≤ 60) (xs : List Int) (G : Int) (K : Nat) (hfin : ∀ k, K ≤ k → corebanklaw43_MessageMissing.l1 k l s xs G 0 = some true) : ∀ (d k i : Nat) (g : Int), l.length - i = d → i ≤ l.length → grtF s g (l.drop i) = G → d + K + 1 ≤ k →
    corebanklaw43_MessageMissing.l0 k l s xs g (i : Int) = some true
  | d, 0, i, g, _, _, _, hk => by omega
  | d, k + 1, i, g, hd, hi, hG, hk => by
    simp only [corebanklaw43_MessageMissing.l0]
    by_cases h : i < l.length
    · rw [if_pos (by omega), if_pos (by omega)]
      rw [drop_rd l i h, grtF_cons] at hG
      have hw := w64s i (by omega)
      generalize rd_T23 l (i : Int) = y at hG ⊢
      by_cases h1 : y.f0.toList = s.toList
      · have e1 : isS s y = true := by unfold isS; rw [h1]; exact beq_self_eq_true _
        rw [if_pos e1] at hG
        rw [if_pos h1, hw]
        by_cases h2 : g < y.f1
        · rw [if_pos h2] at hG
          rw [if_pos h2]
          exact law_l0 s l hl xs G K hfin (d - 1) k (i + 1) _ (by omega) (by omega) hG (by omega)
        · rw [if_neg h2] at hG
          rw [if_neg h2]
          exact law_l0 s l hl xs G K hfin (d - 1) k (i + 1) _ (by omega) (by omega) hG (by omega)
      · have e1 : ¬ isS s y = true := by unfold isS; simpa using h1
        rw [if_neg e1] at hG
        rw [if_neg h1, hw]
        exact law_l0 s l hl xs G K hfin (d - 1) k (i + 1) _ (by omega) (by omega) hG (by omega)
    · rw [if_neg (by omega)]
      rw [List.drop_eq_nil_of_le (by omega)] at hG
      have hG' : g = G := hG
      rw [hG']
      exact hfin k (by omega)
theorem MessageMissing : ∀ (a0 : List S23) (a1 : ByteArray), a0.length * 72 ≤ 140737488351232 → (∀ x ∈ a0, okM x) → a1.size ≤ 140737488351232 → ∃ k, QD.corebanklaw43_MessageMissing.f k a0 a1 = some true := by
  intro l s _ ho _
  by_cases hg : greatB l = true
  · refine ⟨l.length + 1, ?_⟩
    unfold corebanklaw43_MessageMissing.f
    rw [great_ev l _ (Nat.le_refl _), Option.bind_some, if_pos hg]
  · have hg' : greatB l = false := by simpa using hg
    obtain ⟨hl, hf⟩ := great_fit ho hg'
    have hr : ∀ m ∈ l, i64R m.f1 := fun m hm => (hf m hm).1.2.2.1
    have hmiss : message_Missing.f l s = some (missR s l) := by
      unfold message_Missing.f
      rw [if_pos ⟨by omega, fun m hm => hr m hm⟩, miss_same]
    obtain ⟨K, hK⟩ := rmiss_ev s l hl hr
    have hfin : ∀ k, K + (missR s l).length + (missR s l).length + 2 ≤ k → corebanklaw43_MessageMissing.l1 k l s (missR s l) (grtM s l) 0 = some true := fun k hk =>
      law_l1 s l (grtM s l) (missR s l) (missR_len s l) (missR_sorted s l) (fun x hx => missR_mem hx) K hK _ k 0 rfl (by omega) (by omega)
    refine ⟨l.length + (K + (missR s l).length + (missR s l).length + 2) + 1, ?_⟩
    unfold corebanklaw43_MessageMissing.f
    rw [great_ev l _ (by omega), Option.bind_some, if_neg hg, hmiss, Option.bind_some]
    exact law_l0 s l hl (missR s l) (grtM s l) _ hfin l.length _ 0 0 (by omega) (by omega) (by rw [List.drop_zero, grtF_zero]) (by omega)
end Go.Proofs.YthmlibimhdeocaaDoor.Pure

