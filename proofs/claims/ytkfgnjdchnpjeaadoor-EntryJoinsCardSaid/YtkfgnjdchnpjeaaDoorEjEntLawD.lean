/- EntLawA, EntLawB, EntLawC, EntLawD: what the law EntryJoins asks of it. -/
import Derived.Test.YtkfgnjdchnpjeaaDoorEjOpenE
import Derived.Test.YtkfgnjdchnpjeaaDoorEjText
import Derived.Test.YtkfgnjdchnpjeaaDoorEjQDx3
import Derived.Test.YtkfgnjdchnpjeaaDoorEjQDx6
import Derived.Test.YtkfgnjdchnpjeaaDoorEjQDx0
import Derived.Test.YtkfgnjdchnpjeaaDoorEjEntDel
import Derived.Test.YtkfgnjdchnpjeaaDoorEjQDx1
import Derived.Test.YtkfgnjdchnpjeaaDoorEjQDx5
import Derived.Test.YtkfgnjdchnpjeaaDoorEjQDx4
import Derived.Test.YtkfgnjdchnpjeaaDoorEjKeySum
import Derived.Test.YtkfgnjdchnpjeaaDoorEjEntRev
section
namespace Go.Proofs.YtkfgnjdchnpjeaaDoor.Pure
open Go Go.RowKit Go.Proofs.YtkfgnjdchnpjeaaDoor Go.Proofs.YtkfgnjdchnpjeaaDoor.QD Go.Proofs.YtkfgnjdchnpjeaaDoorW.PrintWords
set_option linter.unusedVariables false
set_option linter.unusedSimpArgs false

def I64 (x : Int) : Prop := -9223372036854775808 ≤ x ∧ x ≤ 9223372036854775807
theorem wfI {a : Int} (h : (Lit.int .i64 a).wf = true) : I64 a := by
  have e1 : IntKind.i64.min = -9223372036854775808 := rfl
  have e2 : IntKind.i64.max = 9223372036854775807 := rfl
  simp [Lit.wf, e1, e2] at h
  exact h
/-- An entry that is not great. -/
def fitE (e : S25) : Prop := I64 e.f0 ∧ I64 e.f1 ∧ I64 e.f2 ∧ I64 e.f3 ∧ I64 e.f4 ∧ I64 e.f5 ∧ e.f6.size ≤ 1000 ∧ e.f7.size ≤ 1000 ∧ e.f8.length ≤ 30 ∧ (∀ x ∈ e.f8, I64 x.f0 ∧ I64 x.f1 ∧ x.f2.size ≤ 100)
theorem rdL_drop (l : List S46) (i : Nat) (h : i < l.length) : ∃ x, l.drop i = x :: l.drop (i + 1) ∧ rd_T46 l (i : Int) = x ∧ x ∈ l := by
  refine ⟨l[i], List.drop_eq_getElem_cons h, ?_, List.getElem_mem _⟩
  unfold rd_T46
  rw [Int.toNat_natCast, List.getD_eq_getElem?_getD, List.getElem?_eq_getElem h]
  rfl
theorem rdY_drop (l : List S44) (i : Nat) (h : i < l.length) : ∃ x, l.drop i = x :: l.drop (i + 1) ∧ rd_T44 l (i : Int) = x ∧ x ∈ l := by
  refine ⟨l[i], List.drop_eq_getElem_cons h, ?_, List.getElem_mem _⟩
  unfold rd_T44
  rw [Int.toNat_natCast, List.getD_eq_getElem?_getD, List.getElem?_eq_getElem h]
  rfl
/-- Great. -/
def greatB (e : S25) : Bool := decide (30 < e.f8.length) || decide (1000 < e.f6.size) || decide (1000 < e.f7.size) || e.f8.any fun x => decide (100 < x.f2.size)
theorem great_l0 (e : S25) (hl : e.f8.length ≤ 30) : ∀ (d k i : Nat), e.f8.length - i = d → i ≤ e.f8.length → d + 1 ≤ k →
    corebankref19_Great.l0 k (i : Int) e.f0 e.f1 e.f2 e.f3 e.f4 e.f5 e.f6 e.f7 e.f8 e.f9 = some ((e.f8.drop i).any fun x => decide (100 < x.f2.size))
  | d, 0, i, _, _, hk => by omega
  | d, k + 1, i, hd, hi, hk => by
    simp only [corebankref19_Great.l0]
    by_cases h : i < e.f8.length
    · obtain ⟨x, hx, hr, -⟩ := rdL_drop e.f8 i h
      rw [if_pos (by omega), if_pos (by omega), hr, hx, List.any_cons]
      by_cases h1 : 100 < x.f2.size
      · rw [if_pos (by omega), decide_eq_true h1]
        rfl
      · rw [if_neg (by omega), decide_eq_false h1, w64s i (by omega)]
        exact great_l0 e hl (d - 1) k (i + 1) (by omega) (by omega) (by omega)
    · rw [if_neg (by omega), List.drop_eq_nil_of_le (by omega)]
      rfl
theorem great_ev (e : S25) (k : Nat) (hk : 40 ≤ k) : corebankref19_Great.f k e.f0 e.f1 e.f2 e.f3 e.f4 e.f5 e.f6 e.f7 e.f8 e.f9 = some (greatB e) := by
  obtain ⟨k, rfl⟩ : ∃ n, k = n + 1 := ⟨k - 1, by omega⟩
  unfold corebankref19_Great.f greatB
  simp only [corebankref19_Great.j0]
  by_cases h1 : 30 < e.f8.length
  · rw [if_pos (by omega), if_pos trivial, decide_eq_true h1]
    rfl
  · rw [if_neg (by omega), decide_eq_false h1]
    by_cases h2 : 1000 < e.f6.size
    · rw [if_pos (by omega), if_pos trivial, decide_eq_true h2]
      rfl
    · rw [if_neg (by omega), decide_eq_false h2]
      by_cases h3 : 1000 < e.f7.size
      · rw [decide_eq_true (by omega : (e.f7.size : Int) > 1000), if_pos rfl, decide_eq_true h3]
        rfl
      · rw [decide_eq_false (by omega : ¬ (e.f7.size : Int) > 1000), if_neg (by simp), decide_eq_false h3]
        have := great_l0 e (by omega) e.f8.length k 0 rfl (by omega) (by omega)
        rw [List.drop_zero] at this
        exact this
theorem great_fit {e : S25} (ho : okT25 140737488351232 e) (h : greatB e = false) : fitE e := by
  obtain ⟨w0, w1, w2, w3, w4, w5, -, -, ⟨-, hL⟩, -⟩ := ho
  unfold greatB at h
  simp only [Bool.or_eq_false_iff, decide_eq_false_iff_not] at h
  obtain ⟨⟨⟨h1, h2⟩, h3⟩, h4⟩ := h
  refine ⟨wfI w0, wfI w1, wfI w2, wfI w3, wfI w4, wfI w5, by omega, by omega, by omega, fun x hx => ?_⟩
  have := List.any_eq_false.1 h4 x hx
  obtain ⟨a, b, -⟩ := hL x hx
  exact ⟨wfI a, wfI b, by simpa using this⟩
/-- A text's signs and its size. -/
def textB (lo most : Nat) (x : ByteArray) : Bool := (x.data.toList.all fun c => decide (lo ≤ c.toNat) && decide (c.toNat ≤ 126)) && decide (x.size ≤ most)
def dayB (n : Int) : Bool := decide (0 ≤ n) && decide (n ≤ 73048)
end Go.Proofs.YtkfgnjdchnpjeaaDoor.Pure

end
section
namespace Go.Proofs.YtkfgnjdchnpjeaaDoor.Pure
open Go Go.RowKit Go.Proofs.YtkfgnjdchnpjeaaDoor Go.Proofs.YtkfgnjdchnpjeaaDoor.QD Go.Proofs.YtkfgnjdchnpjeaaDoorW.PrintWords
set_option linter.unusedVariables false
set_option linter.unusedSimpArgs false

theorem wI {n : Int} (h : I64 n) : wrap64 n = n := w64 h.1 h.2
theorem addL_nil (x : S46) : addL [] x = [x] := rfl
theorem addL_lt {y x : S46} (r : List S46) (h : cmpL y (keyL x) < 0) : addL (y :: r) x = y :: addL r x := by
  unfold addL
  rw [addR, if_pos h]
theorem addL_eq {y x : S46} (r : List S46) (h : cmpL y (keyL x) = 0) : addL (y :: r) x = ⟨x.f0, wrap64 (y.f1 + x.f1), x.f2⟩ :: r := by
  unfold addL
  rw [addR, if_neg (by omega), if_pos h]
  obtain ⟨h1, h2⟩ := (cmpL_zero _ _).1 h
  unfold put1L
  rw [h1, h2]
  rfl
theorem addL_gt {y x : S46} (r : List S46) (h : 0 < cmpL y (keyL x)) : addL (y :: r) x = x :: y :: r := by
  unfold addL
  rw [addR, if_neg (by omega), if_neg (by omega)]
  rfl
theorem sameL_l0 (l : List S46) (hl : l.length ≤ 1000000) : ∀ (d k i : Nat), l.length - i = d → i ≤ l.length → d + 1 ≤ k → corebankref19_SameLegs.l0 k l l (i : Int) = some true
  | d, 0, i, _, _, hk => by omega
  | d, k + 1, i, hd, hi, hk => by
    simp only [corebankref19_SameLegs.l0]
    by_cases h : i < l.length
    · rw [if_pos (by omega), if_pos (by omega), if_pos (by omega), if_neg (by simp), w64s i (by omega)]
      exact sameL_l0 l hl (d - 1) k (i + 1) (by omega) (by omega) (by omega)
    · rw [if_neg (by omega)]
theorem sameL_ev (l : List S46) (hl : l.length ≤ 1000000) (k : Nat) (hk : l.length + 1 ≤ k) : corebankref19_SameLegs.f k l l = some true := by
  unfold corebankref19_SameLegs.f
  rw [if_pos rfl]
  exact sameL_l0 l hl l.length k 0 rfl (by omega) hk
end Go.Proofs.YtkfgnjdchnpjeaaDoor.Pure

end
section
namespace Go.Proofs.YtkfgnjdchnpjeaaDoor.Pure
open Go Go.RowKit Go.Proofs.YtkfgnjdchnpjeaaDoor Go.Proofs.YtkfgnjdchnpjeaaDoor.QD Go.Proofs.YtkfgnjdchnpjeaaDoorW.PrintWords
set_option linter.unusedVariables false
set_option linter.unusedSimpArgs false

def headB (e : S25) : Prop := textB 32 64 e.f7 = true ∧ dayB e.f1 = true ∧ dayB e.f2 = true ∧ dayB e.f5 = true ∧ 1 ≤ e.f3 ∧ e.f3 ≤ 14 ∧ 0 ≤ e.f4 ∧ e.f4 ≤ 3
instance (e : S25) : Decidable (headB e) := inferInstanceAs (Decidable (_ ∧ _))
theorem sums_eq (l : List S46) (hl : l.length ≤ 100000) : entry_Sums.f l = some (sumsS l) := by
  unfold entry_Sums.f
  rw [if_pos hl]
theorem net_eq (l : List S46) (hl : l.length ≤ 100000) : entry_Net.f l = some (netS l) := by
  unfold entry_Net.f
  rw [if_pos hl]
end Go.Proofs.YtkfgnjdchnpjeaaDoor.Pure

end
section
namespace Go.Proofs.YtkfgnjdchnpjeaaDoor.Pure
open Go Go.RowKit Go.Proofs.YtkfgnjdchnpjeaaDoor Go.Proofs.YtkfgnjdchnpjeaaDoor.QD Go.Proofs.YtkfgnjdchnpjeaaDoorW.PrintWords
set_option linter.unusedVariables false
set_option linter.unusedSimpArgs false

theorem I64_wrap (n : Int) : I64 (wrap64 n) := by unfold I64 wrap64; omega
/-- Amounts by currency, and by account and currency. -/
def curs (l : List S46) : List (ByteArray × Int) := l.map fun x => (x.f2, x.f1)
def legsK (l : List S46) : List ((Int × ByteArray) × Int) := l.map fun x => (keyL x, x.f1)
theorem cmpL_key (a : S46) (k : Int × ByteArray) : cmpL a k = 0 ↔ keyL a = k := by
  rw [cmpL_zero]
  unfold keyL
  constructor
  · rintro ⟨h1, h2⟩; rw [h1, h2]
  · intro h; rw [← h]; exact ⟨rfl, rfl⟩
theorem addL_step (o : List S46) (x : S46) (h : I64 x.f1) : addL o x = stepA cmpL mkL put1L (fun y : S46 => y.f1) o (keyL x, x.f1) := by
  unfold addL stepA
  rw [wI h]
theorem coll_fold : ∀ (l : List S46) (o : List S46), (∀ x ∈ l, I64 x.f1) → l.foldl addL o = (legsK l).foldl (stepA cmpL mkL put1L (fun y : S46 => y.f1)) o
  | [], o, _ => rfl
  | x :: r, o, h => by
    rw [List.foldl_cons, addL_step o x (h x List.mem_cons_self), coll_fold r _ (fun y hy => h y (List.mem_cons_of_mem _ hy))]
    rfl
theorem sums_fold : ∀ (l : List S46) (o : List S44), l.foldl addY o = (curs l).foldl (stepA cfY mkY put1Y (fun y : S44 => y.f1)) o
  | [], o => rfl
  | x :: r, o => by
    rw [List.foldl_cons, sums_fold r]
    unfold curs addY stepA
    rw [List.map_cons, List.foldl_cons, Int.zero_add]
theorem cfY_key (a : S44) (k : ByteArray) : cfY a k = 0 ↔ a.f0 = k := cmpT_zero _ _
theorem coll_inv (l : List S46) (h : ∀ x ∈ l, I64 x.f1) : (∀ y ∈ collS l, y.f1 = wrap64 (totA (legsK l) (keyL y))) ∧ ∀ k, (∃ y ∈ collS l, keyL y = k) ↔ ∃ p ∈ legsK l, p.1 = k := by
  have h0 := fold_inv (val := fun y : S46 => y.f1) ordL cmpL_key (fun _ _ => rfl) (fun _ _ => rfl) (legsK l) [] (fun _ => 0) (by simp [sortedK]) (fun y hy => absurd hy (by simp)) (fun _ _ => rfl)
  rw [← coll_fold l [] h] at h0
  obtain ⟨-, h2, h3⟩ := h0
  refine ⟨fun y hy => ?_, fun k => ?_⟩
  · have := h2 y hy
    rw [Int.zero_add] at this
    exact this
  · refine Iff.trans (h3 k) ?_
    constructor
    · rintro (⟨y, hy, -⟩ | h)
      · exact absurd hy (by simp)
      · exact h
    · exact .inr
theorem sums_inv (l : List S46) : (∀ y ∈ sumsS l, y.f1 = wrap64 (totA (curs l) y.f0)) ∧ ∀ k, (∃ y ∈ sumsS l, y.f0 = k) ↔ ∃ p ∈ curs l, p.1 = k := by
  have h0 := fold_inv (val := fun y : S44 => y.f1) ordY cfY_key (fun _ _ => rfl) (fun _ _ => rfl) (curs l) [] (fun _ => 0) (by simp [sortedK]) (fun y hy => absurd hy (by simp)) (fun _ _ => rfl)
  rw [← sums_fold l []] at h0
  obtain ⟨-, h2, h3⟩ := h0
  refine ⟨fun y hy => ?_, fun k => ?_⟩
  · have := h2 y hy
    rw [Int.zero_add] at this
    exact this
  · refine Iff.trans (h3 k) ?_
    constructor
    · rintro (⟨y, hy, -⟩ | h)
      · exact absurd hy (by simp)
      · exact h
    · exact .inr
theorem keep_mem {l : List S46} {x : S46} : x ∈ keepL l ↔ x ∈ l ∧ x.f1 ≠ 0 := by
  unfold keepL
  rw [List.mem_filter]
  simp
theorem netS_sorted (l : List S46) : sortedK cmpL keyL (netS l) := (collS_sorted l).filter _
theorem netS_len (l : List S46) : (netS l).length ≤ l.length := by
  have h1 : (netS l).length ≤ (collS l).length := List.length_filter_le _ _
  have h2 := collS_len l
  omega
theorem netS_mem {l : List S46} (h : ∀ x ∈ l, I64 x.f1) {y : S46} (hy : y ∈ netS l) : y.f1 ≠ 0 ∧ I64 y.f1 := by
  obtain ⟨h1, h2⟩ := keep_mem.1 hy
  refine ⟨h2, ?_⟩
  rw [(coll_inv l h).1 y h1]
  exact I64_wrap _
theorem coll_sorted_id : ∀ (n o : List S46), sortedK cmpL keyL (o ++ n) → n.foldl addL o = o ++ n
  | [], o, _ => by simp
  | x :: r, o, hs => by
    rw [List.foldl_cons]
    have h1 : ∀ y ∈ o, cmpL y (keyL x) < 0 := fun y hy => (List.pairwise_append.1 hs).2.2 y hy x List.mem_cons_self
    have e : addL o x = o ++ [x] := by
      unfold addL
      rw [addR_end ordL _ _ _ o h1]
      rfl
    rw [e, coll_sorted_id r (o ++ [x]) (by rw [List.append_assoc]; exact hs), List.append_assoc]
    rfl
theorem net_net {l : List S46} : netS (netS l) = netS l := by
  have h1 : collS (netS l) = netS l := coll_sorted_id (netS l) [] (by rw [List.nil_append]; exact netS_sorted l)
  show keepL (collS (netS l)) = netS l
  rw [h1]
  unfold keepL
  rw [List.filter_eq_self]
  intro x hx
  have := (keep_mem.1 hx).2
  simpa using this
theorem tot_addL (c : ByteArray) (x : S46) : ∀ o : List S46, wrap64 (totA (curs (addL o x)) c) = wrap64 ((if x.f2 = c then x.f1 else 0) + totA (curs o) c)
  | [] => by
    rw [addL_nil]
    rfl
  | y :: r => by
    by_cases h1 : cmpL y (keyL x) < 0
    · rw [addL_lt r h1]
      have ih := tot_addL c x r
      unfold curs at ih ⊢
      rw [List.map_cons, List.map_cons, totA, totA]
      unfold wrap64 at *
      omega
    · by_cases h2 : cmpL y (keyL x) = 0
      · rw [addL_eq r h2]
        have hc : y.f2 = x.f2 := ((cmpL_zero _ _).1 h2).2
        unfold curs
        rw [List.map_cons, List.map_cons, totA, totA]
        dsimp only
        rw [hc]
        split
        · unfold wrap64; omega
        · simp
      · rw [addL_gt r (by omega)]
        rfl
theorem tot_coll (c : ByteArray) : ∀ (l o : List S46), wrap64 (totA (curs (l.foldl addL o)) c) = wrap64 (totA (curs o) c + totA (curs l) c)
  | [], o => by
    show wrap64 (totA (curs o) c) = wrap64 (totA (curs o) c + 0)
    rw [Int.add_zero]
  | x :: r, o => by
    rw [List.foldl_cons, tot_coll c r]
    have h1 := tot_addL c x o
    have h2 : totA (curs (x :: r)) c = (if x.f2 = c then x.f1 else 0) + totA (curs r) c := rfl
    rw [h2]
    unfold wrap64 at *
    omega
theorem tot_keep (c : ByteArray) : ∀ o : List S46, totA (curs (keepL o)) c = totA (curs o) c
  | [] => rfl
  | y :: r => by
    have ih := tot_keep c r
    have h2 : totA (curs (y :: r)) c = (if y.f2 = c then y.f1 else 0) + totA (curs r) c := rfl
    rw [h2]
    by_cases h : y.f1 = 0
    · have e : keepL (y :: r) = keepL r := by unfold keepL; rw [List.filter_cons_of_neg (by simp [h])]
      rw [e, ih, h]
      split <;> omega
    · have e : keepL (y :: r) = y :: keepL r := by unfold keepL; rw [List.filter_cons_of_pos (by simp [h])]
      have h3 : totA (curs (y :: keepL r)) c = (if y.f2 = c then y.f1 else 0) + totA (curs (keepL r)) c := rfl
      rw [e, h3, ih]
theorem tot_net (c : ByteArray) (l : List S46) : wrap64 (totA (curs (netS l)) c) = wrap64 (totA (curs l) c) := by
  show wrap64 (totA (curs (keepL (collS l))) c) = _
  rw [tot_keep]
  have := tot_coll c l []
  have h0 : totA (curs []) c = 0 := rfl
  rw [h0, Int.zero_add] at this
  exact this
end Go.Proofs.YtkfgnjdchnpjeaaDoor.Pure

end
