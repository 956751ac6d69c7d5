/- EntLawA, EntLawB, EntLawC: what the law EntryNets asks of it. -/
import Derived.Test.YtkfgnjdchnpjeaaDoorEnOpenE
import Derived.Test.YtkfgnjdchnpjeaaDoorEnText
import Derived.Test.YtkfgnjdchnpjeaaDoorEnQDx3
import Derived.Test.YtkfgnjdchnpjeaaDoorEnQDx6
import Derived.Test.YtkfgnjdchnpjeaaDoorEnQDx0
import Derived.Test.YtkfgnjdchnpjeaaDoorEnQDx7
import Derived.Test.YtkfgnjdchnpjeaaDoorEnEntDel
import Derived.Test.YtkfgnjdchnpjeaaDoorEnQDx11
import Derived.Test.YtkfgnjdchnpjeaaDoorEnQDx5
import Derived.Test.YtkfgnjdchnpjeaaDoorEnQDx4
section
namespace Go.Proofs.YtkfgnjdchnpjeaaDoor.Pure
open Go Go.RowKit Go.Proofs.YtkfgnjdchnpjeaaDoor Go.Proofs.YtkfgnjdchnpjeaaDoor.QD Go.Proofs.YtkfgnjdchnpjeaaDoorW.PrintWords
set_option linter.unusedVariables false
set_option linter.unusedSimpArgs false

def I64 (x : Int) : Prop := -9223372036854775808 ≤ x ∧ x ≤ 9223372036854775807
theorem wfI {a : Int} (h : (Lit.int .i64 a).wf = true) : I64 a := by
  have e1 : IntKind.i64.min = -9223372036854775808 := rfl
  have e2 : IntKind.i64.max = 9223372036854775807 := rfl
  simp [Lit.wf, e1, e2] at h
  exact h
/-- An entry that is not great. -/
def fitE (e : S25) : Prop := I64 e.f0 ∧ I64 e.f1 ∧ I64 e.f2 ∧ I64 e.f3 ∧ I64 e.f4 ∧ I64 e.f5 ∧ e.f6.size ≤ 1000 ∧ e.f7.size ≤ 1000 ∧ e.f8.length ≤ 30 ∧ (∀ x ∈ e.f8, I64 x.f0 ∧ I64 x.f1 ∧ x.f2.size ≤ 100)
theorem rdL_drop (l : List S46) (i : Nat) (h : i < l.length) : ∃ x, l.drop i = x :: l.drop (i + 1) ∧ rd_T46 l (i : Int) = x ∧ x ∈ l := by
  refine ⟨l[i], List.drop_eq_getElem_cons h, ?_, List.getElem_mem _⟩
  unfold rd_T46
  rw [Int.toNat_natCast, List.getD_eq_getElem?_getD, List.getElem?_eq_getElem h]
  rfl
theorem rdY_drop (l : List S44) (i : Nat) (h : i < l.length) : ∃ x, l.drop i = x :: l.drop (i + 1) ∧ rd_T44 l (i : Int) = x ∧ x ∈ l := by
  refine ⟨l[i], List.drop_eq_getElem_cons h, ?_, List.getElem_mem _⟩
  unfold rd_T44
  rw [Int.toNat_natCast, List.getD_eq_getElem?_getD, List.getElem?_eq_getElem h]
  rfl
/-- Great. -/
def greatB (e : S25) : Bool := decide (30 < e.f8.length) || decide (1000 < e.f6.size) || decide (1000 < e.f7.size) || e.f8.any fun x => decide (100 < x.f2.size)
theorem great_l0 (e : S25) (hl : e.f8.length ≤ 30) : ∀ (d k i : Nat), e.f8.length - i = d → i ≤ e.f8.length → d + 1 ≤ k →
    corebankref19_Great.l0 k (i : Int) e.f0 e.f1 e.f2 e.f3 e.f4 e.f5 e.f6 e.f7 e.f8 e.f9 = some ((e.f8.drop i).any fun x => decide (100 < x.f2.size))
  | d, 0, i, _, _, hk => by omega
  | d, k + 1, i, hd, hi, hk => by
    simp only [corebankref19_Great.l0]
    by_cases h : i < e.f8.length
    · obtain ⟨x, hx, hr, -⟩ := rdL_drop e.f8 i h
      rw [if_pos (by omega), if_pos (by omega), hr, hx, List.any_cons]
      by_cases h1 : 100 < x.f2.size
      · rw [if_pos (by omega), decide_eq_true h1]
        rfl
      · rw [if_neg (by omega), decide_eq_false h1, w64s i (by omega)]
        exact great_l0 e hl (d - 1) k (i + 1) (by omega) (by omega) (by omega)
    · rw [if_neg (by omega), List.drop_eq_nil_of_le (by omega)]
      rfl
theorem great_ev (e : S25) (k : Nat) (hk : 40 ≤ k) : corebankref19_Great.f k e.f0 e.f1 e.f2 e.f3 e.f4 e.f5 e.f6 e.f7 e.f8 e.f9 = some (greatB e) := by
  obtain ⟨k, rfl⟩ : ∃ n, k = n + 1 := ⟨k - 1, by omega⟩
  unfold corebankref19_Great.f greatB
  simp only [corebankref19_Great.j0]
  by_cases h1 : 30 < e.f8.length
  · rw [if_pos (by omega), if_pos trivial, decide_eq_true h1]
    rfl
  · rw [if_neg (by omega), decide_eq_false h1]
    by_cases h2 : 1000 < e.f6.size
    · rw [if_pos (by omega), if_pos trivial, decide_eq_true h2]
      rfl
    · rw [if_neg (by omega), decide_eq_false h2]
      by_cases h3 : 1000 < e.f7.size
      · rw [decide_eq_true (by omega : (e.f7.size : Int) > 1000), if_pos rfl, decide_eq_true h3]
        rfl
      · rw [decide_eq_false (by omega : ¬ (e.f7.size : Int) > 1000), if_neg (by simp), decide_eq_false h3]
        have := great_l0 e (by omega) e.f8.length k 0 rfl (by omega) (by omega)
        rw [List.drop_zero] at this
        exact this
theorem great_fit {e : S25} (ho : okT25 140737488351232 e) (h : greatB e = false) : fitE e := by
  obtain ⟨w0, w1, w2, w3, w4, w5, -, -, ⟨-, hL⟩, -⟩ := ho
  unfold greatB at h
  simp only [Bool.or_eq_false_iff, decide_eq_false_iff_not] at h
  obtain ⟨⟨⟨h1, h2⟩, h3⟩, h4⟩ := h
  refine ⟨wfI w0, wfI w1, wfI w2, wfI w3, wfI w4, wfI w5, by omega, by omega, by omega, fun x hx => ?_⟩
  have := List.any_eq_false.1 h4 x hx
  obtain ⟨a, b, -⟩ := hL x hx
  exact ⟨wfI a, wfI b, by simpa using this⟩
/-- A text's signs and its size. -/
def textB (lo most : Nat) (x : ByteArray) : Bool := (x.data.toList.all fun c => decide (lo ≤ c.toNat) && decide (c.toNat ≤ 126)) && decide (x.size ≤ most)
def dayB (n : Int) : Bool := decide (0 ≤ n) && decide (n ≤ 73048)
end Go.Proofs.YtkfgnjdchnpjeaaDoor.Pure

end
section
namespace Go.Proofs.YtkfgnjdchnpjeaaDoor.Pure
open Go Go.RowKit Go.Proofs.YtkfgnjdchnpjeaaDoor Go.Proofs.YtkfgnjdchnpjeaaDoor.QD Go.Proofs.YtkfgnjdchnpjeaaDoorW.PrintWords
set_option linter.unusedVariables false
set_option linter.unusedSimpArgs false

theorem addY_nil (x : S46) : addY [] x = [⟨x.f2, wrap64 (0 + x.f1)⟩] := rfl
theorem addY_lt {y : S44} {x : S46} (r : List S44) (h : cfY y x.f2 < 0) : addY (y :: r) x = y :: addY r x := by
  unfold addY
  rw [addR, if_pos h]
theorem addY_eq {y : S44} {x : S46} (r : List S44) (h : cfY y x.f2 = 0) : addY (y :: r) x = ⟨x.f2, wrap64 (y.f1 + x.f1)⟩ :: r := by
  unfold addY
  rw [addR, if_neg (by omega), if_pos h]
  have : y.f0 = x.f2 := (cmpT_zero _ _).1 h
  unfold put1Y
  rw [this]
theorem addY_gt {y : S44} {x : S46} (r : List S44) (h : 0 < cfY y x.f2) : addY (y :: r) x = ⟨x.f2, wrap64 (0 + x.f1)⟩ :: y :: r := by
  unfold addY
  rw [addR, if_neg (by omega), if_neg (by omega)]
  rfl
theorem wI {n : Int} (h : I64 n) : wrap64 n = n := w64 h.1 h.2
theorem rsums_l1 (l : List S46) (hl : l.length ≤ 100) (i : Nat) (hi : i < l.length) (x : S46) (hx : rd_T46 l (i : Int) = x) (hxi : I64 x.f1) (o : List S44) (ho : o.length ≤ 100) : ∀ (d k j : Nat), o.length - j = d → j ≤ o.length → d + 1 ≤ k →
    ∃ k', k ≤ k' + d + 1 ∧ corebankref19_Sums.l1 k l o (i : Int) (j : Int) = corebankref19_Sums.l0 k' l (o.take j ++ addY (o.drop j) x) ((i + 1 : Nat) : Int)
  | d, 0, j, _, _, hk => by omega
  | d, k + 1, j, hd, hj, hk => by
    simp only [corebankref19_Sums.l1]
    have hz : wrap64 (0 + x.f1) = x.f1 := by rw [Int.zero_add]; exact wI hxi
    by_cases h : j < o.length
    · obtain ⟨y, hy, hr, -⟩ := rdY_drop o j h
      rw [if_pos (by omega), if_pos (by omega), if_pos (by omega), if_pos (by omega), hr, hx, w64s i (by omega), w64s j (by omega), hy]
      have htk : o.take (j + 1) = o.take j ++ [y] := by
        rw [List.take_add_one, List.getElem?_eq_getElem h]
        have := List.drop_eq_getElem_cons h
        rw [hy] at this
        rw [(List.cons.inj this).1]
        rfl
      by_cases h1 : Op.bytesLess y.f0.toList x.f2.toList = true
      · rw [if_pos h1]
        obtain ⟨k', hk', e⟩ := rsums_l1 l hl i hi x hx hxi o ho (d - 1) k (j + 1) (by omega) (by omega) (by omega)
        refine ⟨k', by omega, ?_⟩
        rw [e, htk, addY_lt _ ((cmpT_neg _ _).2 h1), List.append_assoc]
        rfl
      · rw [if_neg h1, if_pos (by omega), Option.bind_some, if_pos (by rw [List.length_take, List.length_nil]; omega), Option.bind_some, Int.toNat_natCast, Int.toNat_natCast, List.nil_append]
        have hlt : (o.take j).length = j := by rw [List.length_take]; omega
        by_cases h2 : y.f0.toList = x.f2.toList
        · rw [if_pos h2, if_pos (by omega), Option.bind_some, if_pos (by omega), if_pos (by omega), Option.bind_some, if_pos (by rw [List.length_append, List.length_drop, hlt, List.length_singleton]; omega)]
          refine ⟨k, by omega, ?_⟩
          rw [addY_eq _ ((cmpT_zero _ _).2 (list_inj h2)), List.append_assoc, Int.add_comm x.f1]
          rfl
        · rw [if_neg h2, if_pos (by omega), Option.bind_some, Option.bind_some, if_pos (by rw [List.length_append, List.length_drop, hlt, List.length_singleton]; omega)]
          refine ⟨k, by omega, ?_⟩
          have hgt : 0 < cfY y x.f2 := by
            have n1 : ¬ cfY y x.f2 < 0 := fun q => h1 ((cmpT_neg _ _).1 q)
            have n2 : ¬ cfY y x.f2 = 0 := fun q => h2 (by rw [(cmpT_zero _ _).1 q])
            omega
          rw [addY_gt _ hgt, List.append_assoc, hz, hy]
          rfl
    · have hlt : (o.take j).length = j := by rw [List.length_take]; omega
      rw [if_neg (by omega), if_pos (by omega), if_pos (by omega), Option.bind_some, if_pos (by rw [List.length_take, List.length_nil]; omega), Option.bind_some, if_pos (by omega), if_pos (by omega), hx, w64s i (by omega), Int.toNat_natCast, List.nil_append,
        if_pos (by omega), Option.bind_some, Option.bind_some, if_pos (by rw [List.length_append, List.length_drop, hlt, List.length_singleton]; omega)]
      refine ⟨k, by omega, ?_⟩
      rw [List.drop_eq_nil_of_le (by omega), addY_nil, hz, List.append_nil]
theorem rsums_l0 (l : List S46) (hl : l.length ≤ 100) (hI : ∀ x ∈ l, I64 x.f1) : ∀ (d k i : Nat) (o : List S44), l.length - i = d → i ≤ l.length → o.length ≤ i → d * 110 + 1 ≤ k →
    corebankref19_Sums.l0 k l o (i : Int) = some ((l.drop i).foldl addY o)
  | d, 0, i, o, _, _, _, hk => by omega
  | d, k + 1, i, o, hd, hi, ho, hk => by
    simp only [corebankref19_Sums.l0]
    by_cases h : i < l.length
    · obtain ⟨x, hx, hr, hm⟩ := rdL_drop l i h
      obtain ⟨k', hk', e⟩ := rsums_l1 l hl i h x hr (hI x hm) o (by omega) o.length k 0 rfl (by omega) (by omega)
      rw [if_pos (by omega), show (0 : Int) = ((0 : Nat) : Int) from rfl, e, List.take_zero, List.drop_zero, List.nil_append, hx, List.foldl_cons]
      have hlen : (addY o x).length ≤ o.length + 1 := addR_len _ _ _ o
      exact rsums_l0 l hl hI (d - 1) k' (i + 1) _ (by omega) (by omega) (by omega) (by omega)
    · rw [if_neg (by omega), List.drop_eq_nil_of_le (by omega)]
      rfl
theorem rsums_ev (l : List S46) (hl : l.length ≤ 100) (hI : ∀ x ∈ l, I64 x.f1) (k : Nat) (hk : 11001 ≤ k) : corebankref19_Sums.f k l = some (sumsS l) := by
  have := rsums_l0 l hl hI l.length k 0 [] rfl (by omega) (by simp) (by omega)
  rw [List.drop_zero] at this
  exact this
theorem less_eq (y x : S46) : corebankref19_less.f y.f0 y.f1 y.f2 x.f0 x.f1 x.f2 = some (decide (cmpL y (keyL x) < 0)) := by
  unfold corebankref19_less.f
  have hn := cmpL_neg y (keyL x)
  by_cases h1 : y.f0 < x.f0
  · rw [if_pos h1, decide_eq_true (hn.2 (Or.inl h1))]
  · rw [if_neg h1]
    by_cases h2 : y.f0 = x.f0
    · rw [if_pos h2]
      by_cases h3 : Op.bytesLess y.f2.toList x.f2.toList = true
      · rw [h3, decide_eq_true (hn.2 (Or.inr ⟨h2, (cmpT_neg _ _).2 h3⟩))]
      · rw [decide_eq_false (fun q => by
          rcases hn.1 q with q | ⟨-, q⟩
          · exact h1 q
          · exact h3 ((cmpT_neg _ _).1 q))]
        simpa using h3
    · rw [if_neg h2, decide_eq_false (fun q => by
        rcases hn.1 q with q | ⟨q, -⟩
        · exact h1 q
        · exact h2 q)]
theorem cmpT_sym (a b : ByteArray) : cmpT a b < 0 ↔ 0 < cmpT b a := by rw [cmpT_neg, cmpT_pos]
theorem cmpL_sym (y x : S46) : cmpL x (keyL y) < 0 ↔ 0 < cmpL y (keyL x) := by
  rw [cmpL_neg, cmpL_pos]
  unfold keyL
  dsimp only
  rw [cmpT_sym]
  constructor
  · rintro (h | ⟨h, g⟩)
    · exact Or.inl h
    · exact Or.inr ⟨h.symm, g⟩
  · rintro (h | ⟨h, g⟩)
    · exact Or.inl h
    · exact Or.inr ⟨h.symm, g⟩
theorem addL_nil (x : S46) : addL [] x = [x] := rfl
theorem addL_lt {y x : S46} (r : List S46) (h : cmpL y (keyL x) < 0) : addL (y :: r) x = y :: addL r x := by
  unfold addL
  rw [addR, if_pos h]
theorem addL_eq {y x : S46} (r : List S46) (h : cmpL y (keyL x) = 0) : addL (y :: r) x = ⟨x.f0, wrap64 (y.f1 + x.f1), x.f2⟩ :: r := by
  unfold addL
  rw [addR, if_neg (by omega), if_pos h]
  obtain ⟨h1, h2⟩ := (cmpL_zero _ _).1 h
  unfold put1L
  rw [h1, h2]
  rfl
theorem addL_gt {y x : S46} (r : List S46) (h : 0 < cmpL y (keyL x)) : addL (y :: r) x = x :: y :: r := by
  unfold addL
  rw [addR, if_neg (by omega), if_neg (by omega)]
  rfl
theorem rnet_l1 (l : List S46) (hl : l.length ≤ 100) (i : Nat) (hi : i < l.length) (x : S46) (hx : rd_T46 l (i : Int) = x) (o : List S46) (ho : o.length ≤ 100) : ∀ (d k j : Nat), o.length - j = d → j ≤ o.length → d + 1 ≤ k →
    ∃ k', k ≤ k' + d + 1 ∧ corebankref19_Net.l1 k l o (i : Int) (j : Int) = corebankref19_Net.l0 k' l (o.take j ++ addL (o.drop j) x) ((i + 1 : Nat) : Int)
  | d, 0, j, _, _, hk => by omega
  | d, k + 1, j, hd, hj, hk => by
    simp only [corebankref19_Net.l1]
    by_cases h : j < o.length
    · obtain ⟨y, hy, hr, -⟩ := rdL_drop o j h
      rw [if_pos (by omega), if_pos (by omega), if_pos (by omega), if_pos (by omega), hr, hx, w64s i (by omega), w64s j (by omega), hy, less_eq y x, Option.bind_some]
      have htk : o.take (j + 1) = o.take j ++ [y] := by
        rw [List.take_add_one, List.getElem?_eq_getElem h]
        have := List.drop_eq_getElem_cons h
        rw [hy] at this
        rw [(List.cons.inj this).1]
        rfl
      by_cases h1 : cmpL y (keyL x) < 0
      · rw [if_pos (decide_eq_true h1)]
        obtain ⟨k', hk', e⟩ := rnet_l1 l hl i hi x hx o ho (d - 1) k (j + 1) (by omega) (by omega) (by omega)
        refine ⟨k', by omega, ?_⟩
        rw [e, htk, addL_lt _ h1, List.append_assoc]
        rfl
      · have hlt : (o.take j).length = j := by rw [List.length_take]; omega
        rw [if_neg (by simpa using h1), if_pos (by omega), Option.bind_some, if_pos (by rw [List.length_take, List.length_nil]; omega), Option.bind_some, Int.toNat_natCast, Int.toNat_natCast, List.nil_append, less_eq x y, Option.bind_some]
        by_cases h2 : 0 < cmpL y (keyL x)
        · rw [if_pos (decide_eq_true ((cmpL_sym y x).2 h2)), if_pos (by omega), Option.bind_some, Option.bind_some, if_pos (by rw [List.length_append, List.length_drop, hlt, List.length_singleton]; omega)]
          refine ⟨k, by omega, ?_⟩
          rw [addL_gt _ h2, List.append_assoc, hy]
          rfl
        · rw [if_neg (by rw [decide_eq_true_eq, cmpL_sym]; exact h2), if_pos (by omega), Option.bind_some, if_pos (by omega), if_pos (by omega), Option.bind_some, if_pos (by rw [List.length_append, List.length_drop, hlt, List.length_singleton]; omega)]
          refine ⟨k, by omega, ?_⟩
          rw [addL_eq _ (by omega), List.append_assoc, Int.add_comm x.f1]
          rfl
    · have hlt : (o.take j).length = j := by rw [List.length_take]; omega
      rw [if_neg (by omega), if_pos (by omega), if_pos (by omega), Option.bind_some, if_pos (by rw [List.length_take, List.length_nil]; omega), Option.bind_some, if_pos (by omega), if_pos (by omega), hx, w64s i (by omega), Int.toNat_natCast, List.nil_append,
        if_pos (by omega), Option.bind_some, Option.bind_some, if_pos (by rw [List.length_append, List.length_drop, hlt, List.length_singleton]; omega)]
      refine ⟨k, by omega, ?_⟩
      rw [List.drop_eq_nil_of_le (by omega), addL_nil, List.append_nil]
theorem rnet_l2 (o : List S46) (ho : o.length ≤ 100) : ∀ (d k j : Nat) (a : List S46), o.length - j = d → j ≤ o.length → a.length ≤ j → d + 1 ≤ k →
    corebankref19_Net.l2 k o a (j : Int) = some (a ++ keepL (o.drop j))
  | d, 0, j, a, _, _, _, hk => by omega
  | d, k + 1, j, a, hd, hj, ha, hk => by
    simp only [corebankref19_Net.l2]
    by_cases h : j < o.length
    · obtain ⟨y, hy, hr, -⟩ := rdL_drop o j h
      rw [if_pos (by omega), if_pos (by omega), hr, w64s j (by omega), hy]
      by_cases h1 : y.f1 = 0
      · rw [if_pos h1, rnet_l2 o ho (d - 1) k (j + 1) a (by omega) (by omega) (by omega) (by omega)]
        unfold keepL
        rw [List.filter_cons_of_neg (by simp [h1])]
      · rw [if_neg h1, if_pos (by omega), rnet_l2 o ho (d - 1) k (j + 1) _ (by omega) (by omega) (by rw [List.length_append, List.length_singleton]; omega) (by omega)]
        unfold keepL
        rw [List.filter_cons_of_pos (by simp [h1]), List.append_assoc]
        rfl
    · rw [if_neg (by omega), List.drop_eq_nil_of_le (by omega)]
      unfold keepL
      rw [List.filter_nil, List.append_nil]
theorem rnet_l0 (l : List S46) (hl : l.length ≤ 100) : ∀ (d k i : Nat) (o : List S46), l.length - i = d → i ≤ l.length → o.length ≤ i → d * 110 + 110 ≤ k →
    corebankref19_Net.l0 k l o (i : Int) = some (keepL ((l.drop i).foldl addL o))
  | d, 0, i, o, _, _, _, hk => by omega
  | d, k + 1, i, o, hd, hi, ho, hk => by
    simp only [corebankref19_Net.l0]
    by_cases h : i < l.length
    · obtain ⟨x, hx, hr, hm⟩ := rdL_drop l i h
      obtain ⟨k', hk', e⟩ := rnet_l1 l hl i h x hr o (by omega) o.length k 0 rfl (by omega) (by omega)
      rw [if_pos (by omega), show (0 : Int) = ((0 : Nat) : Int) from rfl, e, List.take_zero, List.drop_zero, List.nil_append, hx, List.foldl_cons]
      have hlen : (addL o x).length ≤ o.length + 1 := addR_len _ _ _ o
      exact rnet_l0 l hl (d - 1) k' (i + 1) _ (by omega) (by omega) (by omega) (by omega)
    · rw [if_neg (by omega), List.drop_eq_nil_of_le (by omega)]
      have := rnet_l2 o (by omega) o.length k 0 [] rfl (by omega) (by simp) (by omega)
      rw [List.nil_append, List.drop_zero] at this
      exact this
theorem rnet_ev (l : List S46) (hl : l.length ≤ 100) (k : Nat) (hk : 11110 ≤ k) : corebankref19_Net.f k l = some (netS l) := by
  have := rnet_l0 l hl l.length k 0 [] rfl (by omega) (by simp) (by omega)
  rw [List.drop_zero] at this
  exact this
theorem sameL_l0 (l : List S46) (hl : l.length ≤ 1000000) : ∀ (d k i : Nat), l.length - i = d → i ≤ l.length → d + 1 ≤ k → corebankref19_SameLegs.l0 k l l (i : Int) = some true
  | d, 0, i, _, _, hk => by omega
  | d, k + 1, i, hd, hi, hk => by
    simp only [corebankref19_SameLegs.l0]
    by_cases h : i < l.length
    · rw [if_pos (by omega), if_pos (by omega), if_pos (by omega), if_neg (by simp), w64s i (by omega)]
      exact sameL_l0 l hl (d - 1) k (i + 1) (by omega) (by omega) (by omega)
    · rw [if_neg (by omega)]
theorem sameL_ev (l : List S46) (hl : l.length ≤ 1000000) (k : Nat) (hk : l.length + 1 ≤ k) : corebankref19_SameLegs.f k l l = some true := by
  unfold corebankref19_SameLegs.f
  rw [if_pos rfl]
  exact sameL_l0 l hl l.length k 0 rfl (by omega) hk
theorem sameY_l0 (l : List S44) (hl : l.length ≤ 1000000) : ∀ (d k i : Nat), l.length - i = d → i ≤ l.length → d + 1 ≤ k → corebankref19_SameMoney.l0 k l l (i : Int) = some true
  | d, 0, i, _, _, hk => by omega
  | d, k + 1, i, hd, hi, hk => by
    simp only [corebankref19_SameMoney.l0]
    by_cases h : i < l.length
    · rw [if_pos (by omega), if_pos (by omega), if_pos (by omega), if_neg (by simp), w64s i (by omega)]
      exact sameY_l0 l hl (d - 1) k (i + 1) (by omega) (by omega) (by omega)
    · rw [if_neg (by omega)]
theorem sameY_ev (l : List S44) (hl : l.length ≤ 1000000) (k : Nat) (hk : l.length + 1 ≤ k) : corebankref19_SameMoney.f k l l = some true := by
  unfold corebankref19_SameMoney.f
  rw [if_pos rfl]
  exact sameY_l0 l hl l.length k 0 rfl (by omega) hk
end Go.Proofs.YtkfgnjdchnpjeaaDoor.Pure

end
section
namespace Go.Proofs.YtkfgnjdchnpjeaaDoor.Pure
open Go Go.RowKit Go.Proofs.YtkfgnjdchnpjeaaDoor Go.Proofs.YtkfgnjdchnpjeaaDoor.QD Go.Proofs.YtkfgnjdchnpjeaaDoorW.PrintWords
set_option linter.unusedVariables false
set_option linter.unusedSimpArgs false

def headB (e : S25) : Prop := textB 32 64 e.f7 = true ∧ dayB e.f1 = true ∧ dayB e.f2 = true ∧ dayB e.f5 = true ∧ 1 ≤ e.f3 ∧ e.f3 ≤ 14 ∧ 0 ≤ e.f4 ∧ e.f4 ≤ 3
instance (e : S25) : Decidable (headB e) := inferInstanceAs (Decidable (_ ∧ _))
theorem sums_eq (l : List S46) (hl : l.length ≤ 100000) : entry_Sums.f l = some (sumsS l) := by
  unfold entry_Sums.f
  rw [if_pos hl]
theorem net_eq (l : List S46) (hl : l.length ≤ 100000) : entry_Net.f l = some (netS l) := by
  unfold entry_Net.f
  rw [if_pos hl]
end Go.Proofs.YtkfgnjdchnpjeaaDoor.Pure

end
