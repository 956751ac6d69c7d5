/- EntLawA, EntLawB, EntLawC, EntLawD, EntLawE: what the law EntryTurns asks of it. -/
import Derived.Test.YtkfgnjdchnpjeaaDoorEtOpenE
import Derived.Test.YtkfgnjdchnpjeaaDoorEtText
import Derived.Test.YtkfgnjdchnpjeaaDoorEtQDx3
import Derived.Test.YtkfgnjdchnpjeaaDoorEtQDx6
import Derived.Test.YtkfgnjdchnpjeaaDoorEtQDx8
import Derived.Test.YtkfgnjdchnpjeaaDoorEtEntDel
import Derived.Test.YtkfgnjdchnpjeaaDoorEtQDx0
import Derived.Test.YtkfgnjdchnpjeaaDoorEtQDx1
import Derived.Test.YtkfgnjdchnpjeaaDoorEtQDx7
import Derived.Test.YtkfgnjdchnpjeaaDoorEtQDx5
import Derived.Test.YtkfgnjdchnpjeaaDoorEtQDx4
import Derived.Test.YtkfgnjdchnpjeaaDoorEtQDx9
import Derived.Test.YtkfgnjdchnpjeaaDoorEtEntCmp
import Derived.Test.YtkfgnjdchnpjeaaDoorEtEntRev
import Derived.Test.YtkfgnjdchnpjeaaDoorEtQDx12
import Derived.Test.YtkfgnjdchnpjeaaDoorEtEntLive
section
namespace Go.Proofs.YtkfgnjdchnpjeaaDoor.Pure
open Go Go.RowKit Go.Proofs.YtkfgnjdchnpjeaaDoor Go.Proofs.YtkfgnjdchnpjeaaDoor.QD Go.Proofs.YtkfgnjdchnpjeaaDoorW.PrintWords
set_option linter.unusedVariables false
set_option linter.unusedSimpArgs false

def I64 (x : Int) : Prop := -9223372036854775808 ≤ x ∧ x ≤ 9223372036854775807
theorem wfI {a : Int} (h : (Lit.int .i64 a).wf = true) : I64 a := by
  have e1 : IntKind.i64.min = -9223372036854775808 := rfl
  have e2 : IntKind.i64.max = 9223372036854775807 := rfl
  simp [Lit.wf, e1, e2] at h
  exact h
/-- An entry that is not great. -/
def fitE (e : S25) : Prop := I64 e.f0 ∧ I64 e.f1 ∧ I64 e.f2 ∧ I64 e.f3 ∧ I64 e.f4 ∧ I64 e.f5 ∧ e.f6.size ≤ 1000 ∧ e.f7.size ≤ 1000 ∧ e.f8.length ≤ 30 ∧ (∀ x ∈ e.f8, I64 x.f0 ∧ I64 x.f1 ∧ x.f2.size ≤ 100)
theorem rdL_drop (l : List S46) (i : Nat) (h : i < l.length) : ∃ x, l.drop i = x :: l.drop (i + 1) ∧ rd_T46 l (i : Int) = x ∧ x ∈ l := by
  refine ⟨l[i], List.drop_eq_getElem_cons h, ?_, List.getElem_mem _⟩
  unfold rd_T46
  rw [Int.toNat_natCast, List.getD_eq_getElem?_getD, List.getElem?_eq_getElem h]
  rfl
theorem rdY_drop (l : List S44) (i : Nat) (h : i < l.length) : ∃ x, l.drop i = x :: l.drop (i + 1) ∧ rd_T44 l (i : Int) = x ∧ x ∈ l := by
  refine ⟨l[i], List.drop_eq_getElem_cons h, ?_, List.getElem_mem _⟩
  unfold rd_T44
  rw [Int.toNat_natCast, List.getD_eq_getElem?_getD, List.getElem?_eq_getElem h]
  rfl
/-- Great. -/
def greatB (e : S25) : Bool := decide (30 < e.f8.length) || decide (1000 < e.f6.size) || decide (1000 < e.f7.size) || e.f8.any fun x => decide (100 < x.f2.size)
theorem great_l0 (e : S25) (hl : e.f8.length ≤ 30) : ∀ (d k i : Nat), e.f8.length - i = d → i ≤ e.f8.length → d + 1 ≤ k →
    corebankref19_Great.l0 k (i : Int) e.f0 e.f1 e.f2 e.f3 e.f4 e.f5 e.f6 e.f7 e.f8 e.f9 = some ((e.f8.drop i).any fun x => decide (100 < x.f2.size))
  | d, 0, i, _, _, hk => by omega
  | d, k + 1, i, hd, hi, hk => by
    simp only [corebankref19_Great.l0]
    by_cases h : i < e.f8.length
    · obtain ⟨x, hx, hr, -⟩ := rdL_drop e.f8 i h
      rw [if_pos (by omega), if_pos (by omega), hr, hx, List.any_cons]
      by_cases h1 : 100 < x.f2.size
      · rw [if_pos (by omega), decide_eq_true h1]
        rfl
      · rw [if_neg (by omega), decide_eq_false h1, w64s i (by omega)]
        exact great_l0 e hl (d - 1) k (i + 1) (by omega) (by omega) (by omega)
    · rw [if_neg (by omega), List.drop_eq_nil_of_le (by omega)]
      rfl
theorem great_ev (e : S25) (k : Nat) (hk : 40 ≤ k) : corebankref19_Great.f k e.f0 e.f1 e.f2 e.f3 e.f4 e.f5 e.f6 e.f7 e.f8 e.f9 = some (greatB e) := by
  obtain ⟨k, rfl⟩ : ∃ n, k = n + 1 := ⟨k - 1, by omega⟩
  unfold corebankref19_Great.f greatB
  simp only [corebankref19_Great.j0]
  by_cases h1 : 30 < e.f8.length
  · rw [if_pos (by omega), if_pos trivial, decide_eq_true h1]
    rfl
  · rw [if_neg (by omega), decide_eq_false h1]
    by_cases h2 : 1000 < e.f6.size
    · rw [if_pos (by omega), if_pos trivial, decide_eq_true h2]
      rfl
    · rw [if_neg (by omega), decide_eq_false h2]
      by_cases h3 : 1000 < e.f7.size
      · rw [decide_eq_true (by omega : (e.f7.size : Int) > 1000), if_pos rfl, decide_eq_true h3]
        rfl
      · rw [decide_eq_false (by omega : ¬ (e.f7.size : Int) > 1000), if_neg (by simp), decide_eq_false h3]
        have := great_l0 e (by omega) e.f8.length k 0 rfl (by omega) (by omega)
        rw [List.drop_zero] at this
        exact this
theorem great_fit {e : S25} (ho : okT25 140737488351232 e) (h : greatB e = false) : fitE e := by
  obtain ⟨w0, w1, w2, w3, w4, w5, -, -, ⟨-, hL⟩, -⟩ := ho
  unfold greatB at h
  simp only [Bool.or_eq_false_iff, decide_eq_false_iff_not] at h
  obtain ⟨⟨⟨h1, h2⟩, h3⟩, h4⟩ := h
  refine ⟨wfI w0, wfI w1, wfI w2, wfI w3, wfI w4, wfI w5, by omega, by omega, by omega, fun x hx => ?_⟩
  have := List.any_eq_false.1 h4 x hx
  obtain ⟨a, b, -⟩ := hL x hx
  exact ⟨wfI a, wfI b, by simpa using this⟩
/-- A text's signs and its size. -/
def textB (lo most : Nat) (x : ByteArray) : Bool := (x.data.toList.all fun c => decide (lo ≤ c.toNat) && decide (c.toNat ≤ 126)) && decide (x.size ≤ most)
def keyB (x : ByteArray) : Bool := decide (1 ≤ x.size) && textB 33 48 x
def codeB (x : ByteArray) : Bool := (x.data.toList.all fun c => decide (65 ≤ c.toNat) && decide (c.toNat ≤ 90)) && decide (x.size = 3)
def dayB (n : Int) : Bool := decide (0 ≤ n) && decide (n ≤ 73048)
theorem text_l0 (lo most : Nat) (x : ByteArray) (hx : x.size ≤ 100000) : ∀ (d k i : Nat), x.size - i = d → i ≤ x.size → d + 1 ≤ k →
    entry_text.l0 k x (lo : Int) (most : Int) (x.size : Int) (i : Int) = some (((x.data.toList.drop i).all fun c => decide (lo ≤ c.toNat) && decide (c.toNat ≤ 126)) && decide (x.size ≤ most))
  | d, 0, i, _, _, hk => by omega
  | d, k + 1, i, hd, hi, hk => by
    simp only [entry_text.l0]
    by_cases h : i < x.size
    · obtain ⟨c, hc, hb, hc2⟩ := bt_drop x i h
      rw [if_pos (by omega), if_pos (by omega), if_pos (by omega), hb, hc, w64s i (by omega), text_l0 lo most x hx (d - 1) k (i + 1) (by omega) (by omega) (by omega), List.all_cons]
      by_cases h1 : lo ≤ c.toNat
      · by_cases h2 : c.toNat ≤ 126
        · rw [if_neg (by omega), if_neg (by omega), decide_eq_true h1, decide_eq_true h2]
          simp
        · rw [if_neg (by omega), if_pos (by omega), decide_eq_true h1, decide_eq_false h2]
          simp
      · rw [if_pos (by omega), decide_eq_false h1]
        simp
    · rw [if_neg (by omega), List.drop_eq_nil_of_le (by rw [Array.length_toList]; exact Nat.le_of_not_lt h), List.all_nil, Bool.true_and]
      congr 1
      by_cases h2 : x.size ≤ most
      · rw [decide_eq_true h2, decide_eq_true (by omega)]
      · rw [decide_eq_false h2, decide_eq_false (by omega)]
theorem text_ev (lo most : Nat) (x : ByteArray) (hx : x.size ≤ 100000) (k : Nat) (hk : x.size + 1 ≤ k) : entry_text.f k x (lo : Int) (most : Int) = some (textB lo most x) := by
  have := text_l0 lo most x hx x.size k 0 rfl (by omega) hk
  rw [List.drop_zero] at this
  exact this
theorem key_ev (x : ByteArray) (hx : x.size ≤ 100000) (k : Nat) (hk : x.size + 1 ≤ k) : entry_key.f k x = some (keyB x) := by
  unfold entry_key.f keyB
  have h3 : entry_text.f k x 33 48 = some (textB 33 48 x) := text_ev 33 48 x hx k hk
  by_cases h : 1 ≤ x.size
  · rw [if_neg (fun e => by rw [toList_eqv] at e; have := size_list x; rw [e] at this; simp at this; omega), h3, decide_eq_true h]
    rfl
  · have h0 : x.toList = [] := by rw [toList_eqv]; exact List.eq_nil_of_length_eq_zero (by rw [size_list]; omega)
    rw [if_pos h0, decide_eq_false h]
    rfl
theorem day_ev (n : Int) : entry_day.f n = some (dayB n) := by
  unfold entry_day.f dayB
  by_cases h : 0 ≤ n
  · rw [if_pos h, decide_eq_true h, Bool.true_and]
  · rw [if_neg h, decide_eq_false h, Bool.false_and]
theorem code_l0 (x : ByteArray) (hx : x.size ≤ 100000) : ∀ (d k i : Nat), x.size - i = d → i ≤ x.size → d + 1 ≤ k →
    entry_code.l0 k x (x.size : Int) (i : Int) = some (((x.data.toList.drop i).all fun c => decide (65 ≤ c.toNat) && decide (c.toNat ≤ 90)) && decide (x.size = 3))
  | d, 0, i, _, _, hk => by omega
  | d, k + 1, i, hd, hi, hk => by
    simp only [entry_code.l0]
    by_cases h : i < x.size
    · obtain ⟨c, hc, hb, hc2⟩ := bt_drop x i h
      rw [if_pos (by omega), if_pos (by omega), if_pos (by omega), hb, hc, w64s i (by omega), code_l0 x hx (d - 1) k (i + 1) (by omega) (by omega) (by omega), List.all_cons]
      by_cases h1 : 65 ≤ c.toNat
      · by_cases h2 : c.toNat ≤ 90
        · rw [if_neg (by omega), if_neg (by omega), decide_eq_true h1, decide_eq_true h2]
          simp
        · rw [if_neg (by omega), if_pos (by omega), decide_eq_true h1, decide_eq_false h2]
          simp
      · rw [if_pos (by omega), decide_eq_false h1]
        simp
    · rw [if_neg (by omega), List.drop_eq_nil_of_le (by rw [Array.length_toList]; exact Nat.le_of_not_lt h), List.all_nil, Bool.true_and]
      congr 1
      by_cases h2 : x.size = 3
      · rw [decide_eq_true h2, h2]
        rfl
      · rw [decide_eq_false h2]
        exact beq_eq_false_iff_ne.2 (by omega)
theorem code_ev (x : ByteArray) (hx : x.size ≤ 100000) (k : Nat) (hk : x.size + 1 ≤ k) : entry_code.f k x = some (codeB x) := by
  have := code_l0 x hx x.size k 0 rfl (by omega) hk
  rw [List.drop_zero] at this
  exact this
theorem printed_l0 (lo : Nat) (x : ByteArray) (hx : x.size ≤ 100000) : ∀ (d k i : Nat), x.size - i = d → i ≤ x.size → d + 1 ≤ k →
    corebankref07_Printed.l0 k x (lo : Int) (i : Int) = some ((x.data.toList.drop i).all fun c => decide (lo ≤ c.toNat) && decide (c.toNat ≤ 126))
  | d, 0, i, _, _, hk => by omega
  | d, k + 1, i, hd, hi, hk => by
    simp only [corebankref07_Printed.l0]
    by_cases h : i < x.size
    · obtain ⟨c, hc, hb, hc2⟩ := bt_drop x i h
      rw [if_pos (by omega), if_pos (by omega), hb, hc, w64s i (by omega), printed_l0 lo x hx (d - 1) k (i + 1) (by omega) (by omega) (by omega), List.all_cons]
      by_cases h1 : lo ≤ c.toNat
      · by_cases h2 : c.toNat ≤ 126
        · rw [if_neg (by omega), if_neg (by omega), decide_eq_true h1, decide_eq_true h2]
          simp
        · rw [if_neg (by omega), if_pos (by omega), decide_eq_true h1, decide_eq_false h2]
          simp
      · rw [if_pos (by omega), decide_eq_false h1]
        simp
    · rw [if_neg (by omega), List.drop_eq_nil_of_le (by rw [Array.length_toList]; exact Nat.le_of_not_lt h)]
      rfl
theorem printed_ev (lo most : Nat) (x : ByteArray) (hx : x.size ≤ 100000) (k : Nat) (hk : x.size + 1 ≤ k) : corebankref07_Printed.f k x (most : Int) (lo : Int) = some (textB lo most x) := by
  unfold corebankref07_Printed.f textB
  by_cases h : x.size ≤ most
  · rw [if_neg (by omega), decide_eq_true h, Bool.and_true]
    have := printed_l0 lo x hx x.size k 0 rfl (by omega) hk
    rw [List.drop_zero] at this
    exact this
  · rw [if_pos (by omega), decide_eq_false h, Bool.and_false]
theorem rkey_ev (x : ByteArray) (hx : x.size ≤ 100000) (k : Nat) (hk : x.size + 1 ≤ k) : corebankref07_Key.f k x = some (keyB x) := by
  unfold corebankref07_Key.f keyB
  have h3 : corebankref07_Printed.f k x 48 33 = some (textB 33 48 x) := printed_ev 33 48 x hx k hk
  by_cases h : 1 ≤ x.size
  · rw [if_pos (by omega), h3, decide_eq_true h]
    rfl
  · rw [if_neg (by omega), decide_eq_false h]
    rfl
theorem valid_ev (n : Int) : corebankref04_Valid.f n = some (dayB n) := by
  unfold corebankref04_Valid.f dayB
  by_cases h : 0 ≤ n
  · rw [if_pos h, decide_eq_true h, Bool.true_and]
  · rw [if_neg h, decide_eq_false h, Bool.false_and]
theorem rcode_l0 (x : ByteArray) (hx : x.size ≤ 100000) : ∀ (d k i : Nat), x.size - i = d → i ≤ x.size → d + 1 ≤ k →
    corebankref19_Code.l0 k x (i : Int) = some ((x.data.toList.drop i).all fun c => decide (65 ≤ c.toNat) && decide (c.toNat ≤ 90))
  | d, 0, i, _, _, hk => by omega
  | d, k + 1, i, hd, hi, hk => by
    simp only [corebankref19_Code.l0]
    by_cases h : i < x.size
    · obtain ⟨c, hc, hb, hc2⟩ := bt_drop x i h
      rw [if_pos (by omega), if_pos (by omega), hb, hc, w64s i (by omega), rcode_l0 x hx (d - 1) k (i + 1) (by omega) (by omega) (by omega), List.all_cons]
      by_cases h1 : 65 ≤ c.toNat
      · by_cases h2 : c.toNat ≤ 90
        · rw [if_neg (by omega), if_neg (by omega), decide_eq_true h1, decide_eq_true h2]
          simp
        · rw [if_neg (by omega), if_pos (by omega), decide_eq_true h1, decide_eq_false h2]
          simp
      · rw [if_pos (by omega), decide_eq_false h1]
        simp
    · rw [if_neg (by omega), List.drop_eq_nil_of_le (by rw [Array.length_toList]; exact Nat.le_of_not_lt h)]
      rfl
theorem rcode_ev (x : ByteArray) (k : Nat) (hk : 4 ≤ k) : corebankref19_Code.f k x = some (codeB x) := by
  unfold corebankref19_Code.f codeB
  by_cases h : x.size = 3
  · rw [if_pos (by omega), decide_eq_true h, Bool.and_true]
    have := rcode_l0 x (by omega) x.size k 0 rfl (by omega) (by omega)
    rw [List.drop_zero] at this
    exact this
  · rw [if_neg (by omega), decide_eq_false h, Bool.and_false]
/-- The first error of a leg. -/
def legE (x : S46) : Int := if x.f0 < 1 ∨ x.f1 = 0 ∨ x.f1 < -1000000000000 ∨ 1000000000000 < x.f1 then 1 else if codeB x.f2 = true then 0 else 14
theorem rleg_ev (x : S46) (k : Nat) (hk : 5 ≤ k) : corebankref19_leg.f k x.f0 x.f1 x.f2 = some (legE x) := by
  obtain ⟨k, rfl⟩ : ∃ n, k = n + 1 := ⟨k - 1, by omega⟩
  unfold corebankref19_leg.f legE
  simp only [corebankref19_leg.j0]
  rw [rcode_ev x.f2 k (by omega)]
  by_cases h1 : x.f0 < 1
  · rw [if_pos h1, if_pos trivial, if_pos (Or.inl h1)]
  · rw [if_neg h1]
    by_cases h2 : x.f1 = 0
    · rw [if_pos h2, if_pos trivial, if_pos (Or.inr (Or.inl h2))]
    · rw [if_neg h2]
      by_cases h3 : x.f1 < -1000000000000
      · rw [if_pos h3, if_pos trivial, if_pos (by omega)]
      · rw [if_neg h3]
        by_cases h4 : 1000000000000 < x.f1
        · rw [decide_eq_true (by omega : x.f1 > 1000000000000), if_pos rfl, if_pos (by omega)]
        · rw [decide_eq_false (by omega : ¬ x.f1 > 1000000000000), if_neg (by simp), if_neg (by omega)]
          rw [Option.bind_some]
          split <;> rfl
end Go.Proofs.YtkfgnjdchnpjeaaDoor.Pure

end
section
namespace Go.Proofs.YtkfgnjdchnpjeaaDoor.Pure
open Go Go.RowKit Go.Proofs.YtkfgnjdchnpjeaaDoor Go.Proofs.YtkfgnjdchnpjeaaDoor.QD Go.Proofs.YtkfgnjdchnpjeaaDoorW.PrintWords
set_option linter.unusedVariables false
set_option linter.unusedSimpArgs false

theorem addY_nil (x : S46) : addY [] x = [⟨x.f2, wrap64 (0 + x.f1)⟩] := rfl
theorem addY_lt {y : S44} {x : S46} (r : List S44) (h : cfY y x.f2 < 0) : addY (y :: r) x = y :: addY r x := by
  unfold addY
  rw [addR, if_pos h]
theorem addY_eq {y : S44} {x : S46} (r : List S44) (h : cfY y x.f2 = 0) : addY (y :: r) x = ⟨x.f2, wrap64 (y.f1 + x.f1)⟩ :: r := by
  unfold addY
  rw [addR, if_neg (by omega), if_pos h]
  have : y.f0 = x.f2 := (cmpT_zero _ _).1 h
  unfold put1Y
  rw [this]
theorem addY_gt {y : S44} {x : S46} (r : List S44) (h : 0 < cfY y x.f2) : addY (y :: r) x = ⟨x.f2, wrap64 (0 + x.f1)⟩ :: y :: r := by
  unfold addY
  rw [addR, if_neg (by omega), if_neg (by omega)]
  rfl
theorem wI {n : Int} (h : I64 n) : wrap64 n = n := w64 h.1 h.2
theorem rsums_l1 (l : List S46) (hl : l.length ≤ 100) (i : Nat) (hi : i < l.length) (x : S46) (hx : rd_T46 l (i : Int) = x) (hxi : I64 x.f1) (o : List S44) (ho : o.length ≤ 100) : ∀ (d k j : Nat), o.length - j = d → j ≤ o.length → d + 1 ≤ k →
    ∃ k', k ≤ k' + d + 1 ∧ corebankref19_Sums.l1 k l o (i : Int) (j : Int) = corebankref19_Sums.l0 k' l (o.take j ++ addY (o.drop j) x) ((i + 1 : Nat) : Int)
  | d, 0, j, _, _, hk => by omega
  | d, k + 1, j, hd, hj, hk => by
    simp only [corebankref19_Sums.l1]
    have hz : wrap64 (0 + x.f1) = x.f1 := by rw [Int.zero_add]; exact wI hxi
    by_cases h : j < o.length
    · obtain ⟨y, hy, hr, -⟩ := rdY_drop o j h
      rw [if_pos (by omega), if_pos (by omega), if_pos (by omega), if_pos (by omega), hr, hx, w64s i (by omega), w64s j (by omega), hy]
      have htk : o.take (j + 1) = o.take j ++ [y] := by
        rw [List.take_add_one, List.getElem?_eq_getElem h]
        have := List.drop_eq_getElem_cons h
        rw [hy] at this
        rw [(List.cons.inj this).1]
        rfl
      by_cases h1 : Op.bytesLess y.f0.toList x.f2.toList = true
      · rw [if_pos h1]
        obtain ⟨k', hk', e⟩ := rsums_l1 l hl i hi x hx hxi o ho (d - 1) k (j + 1) (by omega) (by omega) (by omega)
        refine ⟨k', by omega, ?_⟩
        rw [e, htk, addY_lt _ ((cmpT_neg _ _).2 h1), List.append_assoc]
        rfl
      · rw [if_neg h1, if_pos (by omega), Option.bind_some, if_pos (by rw [List.length_take, List.length_nil]; omega), Option.bind_some, Int.toNat_natCast, Int.toNat_natCast, List.nil_append]
        have hlt : (o.take j).length = j := by rw [List.length_take]; omega
        by_cases h2 : y.f0.toList = x.f2.toList
        · rw [if_pos h2, if_pos (by omega), Option.bind_some, if_pos (by omega), if_pos (by omega), Option.bind_some, if_pos (by rw [List.length_append, List.length_drop, hlt, List.length_singleton]; omega)]
          refine ⟨k, by omega, ?_⟩
          rw [addY_eq _ ((cmpT_zero _ _).2 (list_inj h2)), List.append_assoc, Int.add_comm x.f1]
          rfl
        · rw [if_neg h2, if_pos (by omega), Option.bind_some, Option.bind_some, if_pos (by rw [List.length_append, List.length_drop, hlt, List.length_singleton]; omega)]
          refine ⟨k, by omega, ?_⟩
          have hgt : 0 < cfY y x.f2 := by
            have n1 : ¬ cfY y x.f2 < 0 := fun q => h1 ((cmpT_neg _ _).1 q)
            have n2 : ¬ cfY y x.f2 = 0 := fun q => h2 (by rw [(cmpT_zero _ _).1 q])
            omega
          rw [addY_gt _ hgt, List.append_assoc, hz, hy]
          rfl
    · have hlt : (o.take j).length = j := by rw [List.length_take]; omega
      rw [if_neg (by omega), if_pos (by omega), if_pos (by omega), Option.bind_some, if_pos (by rw [List.length_take, List.length_nil]; omega), Option.bind_some, if_pos (by omega), if_pos (by omega), hx, w64s i (by omega), Int.toNat_natCast, List.nil_append,
        if_pos (by omega), Option.bind_some, Option.bind_some, if_pos (by rw [List.length_append, List.length_drop, hlt, List.length_singleton]; omega)]
      refine ⟨k, by omega, ?_⟩
      rw [List.drop_eq_nil_of_le (by omega), addY_nil, hz, List.append_nil]
theorem rsums_l0 (l : List S46) (hl : l.length ≤ 100) (hI : ∀ x ∈ l, I64 x.f1) : ∀ (d k i : Nat) (o : List S44), l.length - i = d → i ≤ l.length → o.length ≤ i → d * 110 + 1 ≤ k →
    corebankref19_Sums.l0 k l o (i : Int) = some ((l.drop i).foldl addY o)
  | d, 0, i, o, _, _, _, hk => by omega
  | d, k + 1, i, o, hd, hi, ho, hk => by
    simp only [corebankref19_Sums.l0]
    by_cases h : i < l.length
    · obtain ⟨x, hx, hr, hm⟩ := rdL_drop l i h
      obtain ⟨k', hk', e⟩ := rsums_l1 l hl i h x hr (hI x hm) o (by omega) o.length k 0 rfl (by omega) (by omega)
      rw [if_pos (by omega), show (0 : Int) = ((0 : Nat) : Int) from rfl, e, List.take_zero, List.drop_zero, List.nil_append, hx, List.foldl_cons]
      have hlen : (addY o x).length ≤ o.length + 1 := addR_len _ _ _ o
      exact rsums_l0 l hl hI (d - 1) k' (i + 1) _ (by omega) (by omega) (by omega) (by omega)
    · rw [if_neg (by omega), List.drop_eq_nil_of_le (by omega)]
      rfl
theorem rsums_ev (l : List S46) (hl : l.length ≤ 100) (hI : ∀ x ∈ l, I64 x.f1) (k : Nat) (hk : 11001 ≤ k) : corebankref19_Sums.f k l = some (sumsS l) := by
  have := rsums_l0 l hl hI l.length k 0 [] rfl (by omega) (by simp) (by omega)
  rw [List.drop_zero] at this
  exact this
theorem sameL_l0 (l : List S46) (hl : l.length ≤ 1000000) : ∀ (d k i : Nat), l.length - i = d → i ≤ l.length → d + 1 ≤ k → corebankref19_SameLegs.l0 k l l (i : Int) = some true
  | d, 0, i, _, _, hk => by omega
  | d, k + 1, i, hd, hi, hk => by
    simp only [corebankref19_SameLegs.l0]
    by_cases h : i < l.length
    · rw [if_pos (by omega), if_pos (by omega), if_pos (by omega), if_neg (by simp), w64s i (by omega)]
      exact sameL_l0 l hl (d - 1) k (i + 1) (by omega) (by omega) (by omega)
    · rw [if_neg (by omega)]
theorem sameL_ev (l : List S46) (hl : l.length ≤ 1000000) (k : Nat) (hk : l.length + 1 ≤ k) : corebankref19_SameLegs.f k l l = some true := by
  unfold corebankref19_SameLegs.f
  rw [if_pos rfl]
  exact sameL_l0 l hl l.length k 0 rfl (by omega) hk
end Go.Proofs.YtkfgnjdchnpjeaaDoor.Pure

end
section
namespace Go.Proofs.YtkfgnjdchnpjeaaDoor.Pure
open Go Go.RowKit Go.Proofs.YtkfgnjdchnpjeaaDoor Go.Proofs.YtkfgnjdchnpjeaaDoor.QD Go.Proofs.YtkfgnjdchnpjeaaDoorW.PrintWords
set_option linter.unusedVariables false
set_option linter.unusedSimpArgs false

/-- The first error of legs; z if there is none. -/
def legsE : List S46 → Int → Int
  | [], z => z
  | x :: r, z => if legE x = 0 then legsE r z else legE x
def balE (l : List S44) : Int := if (l.all fun y => decide (y.f1 = 0)) = true then 0 else 15
def headB (e : S25) : Prop := textB 32 64 e.f7 = true ∧ dayB e.f1 = true ∧ dayB e.f2 = true ∧ dayB e.f5 = true ∧ 1 ≤ e.f3 ∧ e.f3 ≤ 14 ∧ 0 ≤ e.f4 ∧ e.f4 ≤ 3
instance (e : S25) : Decidable (headB e) := inferInstanceAs (Decidable (_ ∧ _))
def chkE (e : S25) : Int := if keyB e.f6 = true then (if headB e then (if e.f8.length < 2 ∨ 12 < e.f8.length then 5 else legsE e.f8 (balE (sumsS e.f8))) else 1) else 4
theorem bal_l1 (l : List S44) (hl : l.length ≤ 1000) : ∀ (d k i : Nat), l.length - i = d → i ≤ l.length → d + 1 ≤ k → entry_Check.l1 k l (l.length : Int) (i : Int) = some (balE (l.drop i))
  | d, 0, i, _, _, hk => by omega
  | d, k + 1, i, hd, hi, hk => by
    simp only [entry_Check.l1]
    by_cases h : i < l.length
    · obtain ⟨y, hy, hr, -⟩ := rdY_drop l i h
      rw [if_pos (by omega), if_pos (by omega), if_pos (by omega), hr, w64s i (by omega), hy]
      unfold balE
      rw [List.all_cons]
      by_cases h1 : y.f1 = 0
      · rw [if_pos h1, decide_eq_true h1, Bool.true_and]
        exact bal_l1 l hl (d - 1) k (i + 1) (by omega) (by omega) (by omega)
      · rw [if_neg h1, decide_eq_false h1, Bool.false_and, if_neg (by simp)]
    · rw [if_neg (by omega), List.drop_eq_nil_of_le (by omega)]
      rfl
theorem rbal_l1 (l : List S44) (hl : l.length ≤ 1000) : ∀ (d k i : Nat), l.length - i = d → i ≤ l.length → d + 1 ≤ k → corebankref19_Check.l1 k l (i : Int) = some (balE (l.drop i))
  | d, 0, i, _, _, hk => by omega
  | d, k + 1, i, hd, hi, hk => by
    simp only [corebankref19_Check.l1]
    by_cases h : i < l.length
    · obtain ⟨y, hy, hr, -⟩ := rdY_drop l i h
      rw [if_pos (by omega), if_pos (by omega), hr, w64s i (by omega), hy]
      unfold balE
      rw [List.all_cons]
      by_cases h1 : y.f1 = 0
      · rw [if_pos h1, decide_eq_true h1, Bool.true_and]
        exact rbal_l1 l hl (d - 1) k (i + 1) (by omega) (by omega) (by omega)
      · rw [if_neg h1, decide_eq_false h1, Bool.false_and, if_neg (by simp)]
    · rw [if_neg (by omega), List.drop_eq_nil_of_le (by omega)]
      rfl
theorem sums_eq (l : List S46) (hl : l.length ≤ 100000) : entry_Sums.f l = some (sumsS l) := by
  unfold entry_Sums.f
  rw [if_pos hl]
theorem legE_bad {x : S46} (h : x.f0 < 1 ∨ x.f1 = 0 ∨ x.f1 < -1000000000000 ∨ 1000000000000 < x.f1) : legE x = 1 := by
  unfold legE
  rw [if_pos h]
theorem legE_ok {x : S46} (h : ¬ (x.f0 < 1 ∨ x.f1 = 0 ∨ x.f1 < -1000000000000 ∨ 1000000000000 < x.f1)) : legE x = if codeB x.f2 = true then 0 else 14 := by
  unfold legE
  rw [if_neg h]
theorem legs_l0 (e : S25) (hl : e.f8.length ≤ 1000) (hc : ∀ x ∈ e.f8, x.f2.size ≤ 100) : ∀ (d k i : Nat), e.f8.length - i = d → i ≤ e.f8.length → d * 2 + 1200 ≤ k →
    entry_Check.l0 k e.f8 (e.f8.length : Int) (i : Int) e.f0 e.f1 e.f2 e.f3 e.f4 e.f5 e.f6 e.f7 e.f8 e.f9 = some (legsE (e.f8.drop i) (balE (sumsS e.f8)))
  | d, 0, i, _, _, hk => by omega
  | d, 1, i, _, _, hk => by omega
  | d, k + 2, i, hd, hi, hk => by
    simp only [entry_Check.l0]
    by_cases h : i < e.f8.length
    · obtain ⟨x, hx, hr, hm⟩ := rdL_drop e.f8 i h
      have hs := hc x hm
      rw [if_pos (by omega), if_pos (by omega), if_pos (by omega), hr, hx, legsE]
      have jT : entry_Check.j3 (k + 1) e.f8 (e.f8.length : Int) (i : Int) true e.f0 e.f1 e.f2 e.f3 e.f4 e.f5 e.f6 e.f7 e.f8 e.f9 x.f0 x.f1 x.f2 = some 1 := by
        simp only [entry_Check.j3]
        rw [if_pos trivial]
      by_cases h1 : x.f0 < 1
      · rw [if_pos h1, jT, legE_bad (Or.inl h1), if_neg (by decide)]
      · rw [if_neg h1]
        by_cases h2 : x.f1 = 0
        · rw [if_pos h2, jT, legE_bad (Or.inr (Or.inl h2)), if_neg (by decide)]
        · rw [if_neg h2]
          by_cases h3 : x.f1 < -1000000000000
          · rw [if_pos h3, jT, legE_bad (Or.inr (Or.inr (Or.inl h3))), if_neg (by decide)]
          · rw [if_neg h3]
            by_cases h4 : 1000000000000 < x.f1
            · rw [decide_eq_true h4, jT, legE_bad (Or.inr (Or.inr (Or.inr h4))), if_neg (by decide)]
            · rw [decide_eq_false h4, legE_ok (by omega)]
              simp only [entry_Check.j3]
              rw [if_neg (by simp), code_ev x.f2 (by omega) k (by omega), Option.bind_some]
              by_cases h5 : codeB x.f2 = true
              · rw [if_pos h5, if_pos h5, if_pos rfl, w64s i (by omega)]
                exact legs_l0 e hl hc (d - 1) k (i + 1) (by omega) (by omega) (by omega)
              · rw [if_neg h5, if_neg h5, if_neg (by decide)]
    · rw [if_neg (by omega), List.drop_eq_nil_of_le (by omega), sums_eq _ (by omega), Option.bind_some]
      have hsl := sumsS_len e.f8
      have := bal_l1 (sumsS e.f8) (by omega) (sumsS e.f8).length (k + 1) 0 rfl (by omega) (by omega)
      rw [List.drop_zero] at this
      exact this
theorem rlegs_l0 (e : S25) (hl : e.f8.length ≤ 100) (hI : ∀ x ∈ e.f8, I64 x.f1) : ∀ (d k i : Nat), e.f8.length - i = d → i ≤ e.f8.length → d + 12000 ≤ k →
    corebankref19_Check.l0 k (i : Int) e.f0 e.f1 e.f2 e.f3 e.f4 e.f5 e.f6 e.f7 e.f8 e.f9 = some (legsE (e.f8.drop i) (balE (sumsS e.f8)))
  | d, 0, i, _, _, hk => by omega
  | d, k + 1, i, hd, hi, hk => by
    simp only [corebankref19_Check.l0]
    by_cases h : i < e.f8.length
    · obtain ⟨x, hx, hr, hm⟩ := rdL_drop e.f8 i h
      rw [if_pos (by omega), if_pos (by omega), hr, hx, legsE, rleg_ev x k (by omega), Option.bind_some]
      by_cases h1 : legE x = 0
      · rw [if_pos h1, if_pos h1, w64s i (by omega)]
        exact rlegs_l0 e hl hI (d - 1) k (i + 1) (by omega) (by omega) (by omega)
      · rw [if_neg h1, if_neg h1]
    · rw [if_neg (by omega), List.drop_eq_nil_of_le (by omega), rsums_ev _ hl hI k (by omega), Option.bind_some]
      have hsl := sumsS_len e.f8
      have := rbal_l1 (sumsS e.f8) (by omega) (sumsS e.f8).length k 0 rfl (by omega) (by omega)
      rw [List.drop_zero] at this
      exact this
theorem check_ev (e : S25) (h6 : e.f6.size ≤ 1100) (h7 : e.f7.size ≤ 1100) (hl : e.f8.length ≤ 1000) (hc : ∀ x ∈ e.f8, x.f2.size ≤ 100) (k : Nat) (hk : 4000 ≤ k) : entry_Check.f k e.f0 e.f1 e.f2 e.f3 e.f4 e.f5 e.f6 e.f7 e.f8 e.f9 = some (chkE e) := by
  obtain ⟨k, rfl⟩ : ∃ n, k = n + 2 := ⟨k - 2, by omega⟩
  have ht : entry_text.f (k + 2) e.f7 32 64 = some (textB 32 64 e.f7) := text_ev 32 64 e.f7 (by omega) (k + 2) (by omega)
  have j1T : ∀ m, entry_Check.j1 (m + 1) true e.f0 e.f1 e.f2 e.f3 e.f4 e.f5 e.f6 e.f7 e.f8 e.f9 = some 1 := fun m => by
    simp only [entry_Check.j1]
    rw [if_pos trivial]
  have j0T : ∀ m, entry_Check.j0 (m + 1) true e.f0 e.f1 e.f2 e.f3 e.f4 e.f5 e.f6 e.f7 e.f8 e.f9 = some 1 := fun m => by
    simp only [entry_Check.j0]
    rw [if_pos trivial]
  unfold entry_Check.f chkE
  rw [key_ev e.f6 (by omega) (k + 2) (by omega), Option.bind_some]
  by_cases c0 : keyB e.f6 = true
  case neg => rw [if_neg c0, if_neg c0]
  rw [if_pos c0, if_pos c0, ht, Option.bind_some]
  by_cases c1 : textB 32 64 e.f7 = true
  case neg => rw [if_neg c1, j0T, if_neg (show ¬ headB e from fun q => c1 q.1)]
  rw [if_pos c1, day_ev, Option.bind_some]
  by_cases c2 : dayB e.f1 = true
  case neg => rw [if_neg c2, j0T, if_neg (show ¬ headB e from fun q => c2 q.2.1)]
  rw [if_pos c2, day_ev, Option.bind_some]
  by_cases c3 : dayB e.f2 = true
  case neg => rw [if_neg c3, j0T, if_neg (show ¬ headB e from fun q => c3 q.2.2.1)]
  rw [if_pos c3, day_ev, Option.bind_some]
  by_cases c4 : dayB e.f5 = true
  case neg => rw [show (!dayB e.f5) = true by simpa using c4, j0T, if_neg (show ¬ headB e from fun q => c4 q.2.2.2.1)]
  rw [show (!dayB e.f5) = false by simp [c4]]
  simp only [entry_Check.j0]
  rw [if_neg (by simp)]
  by_cases c5 : e.f3 < 1
  · rw [if_pos c5, j1T, if_neg (show ¬ headB e from fun q => by have := q.2.2.2.2.1; omega)]
  rw [if_neg c5]
  by_cases c6 : e.f3 > 14
  · rw [if_pos c6, j1T, if_neg (show ¬ headB e from fun q => by have := q.2.2.2.2.2.1; omega)]
  rw [if_neg c6]
  by_cases c7 : e.f4 < 0
  · rw [if_pos c7, j1T, if_neg (show ¬ headB e from fun q => by have := q.2.2.2.2.2.2.1; omega)]
  rw [if_neg c7]
  by_cases c8 : e.f4 > 3
  · rw [decide_eq_true c8, j1T, if_neg (show ¬ headB e from fun q => by have := q.2.2.2.2.2.2.2; omega)]
  rw [decide_eq_false c8, if_pos (show headB e from ⟨c1, c2, c3, c4, by omega, by omega, by omega, by omega⟩)]
  simp only [entry_Check.j1]
  rw [if_neg (by simp)]
  by_cases c9 : e.f8.length < 2
  · rw [if_pos (by omega), if_pos (Or.inl c9)]
  rw [if_neg (by omega)]
  by_cases c10 : 12 < e.f8.length
  · rw [if_pos (by omega), if_pos (Or.inr c10)]
  rw [if_neg (by omega), if_neg (by omega)]
  have := legs_l0 e (by omega) hc e.f8.length k 0 rfl (by omega) (by omega)
  rw [List.drop_zero] at this
  exact this
theorem rcheck_ev (e : S25) (hf : fitE e) (k : Nat) (hk : 13000 ≤ k) : corebankref19_Check.f k e.f0 e.f1 e.f2 e.f3 e.f4 e.f5 e.f6 e.f7 e.f8 e.f9 = some (chkE e) := by
  obtain ⟨-, -, -, -, -, -, h6, h7, h8, hL⟩ := hf
  obtain ⟨k, rfl⟩ : ∃ n, k = n + 2 := ⟨k - 2, by omega⟩
  have ht : corebankref07_Printed.f (k + 2) e.f7 64 32 = some (textB 32 64 e.f7) := printed_ev 32 64 e.f7 (by omega) (k + 2) (by omega)
  have j1T : ∀ m, corebankref19_Check.j1 (m + 1) true e.f0 e.f1 e.f2 e.f3 e.f4 e.f5 e.f6 e.f7 e.f8 e.f9 = some 5 := fun m => by
    simp only [corebankref19_Check.j1]
    rw [if_pos trivial]
  have j0T : ∀ m, corebankref19_Check.j0 (m + 1) true e.f0 e.f1 e.f2 e.f3 e.f4 e.f5 e.f6 e.f7 e.f8 e.f9 = some 1 := fun m => by
    simp only [corebankref19_Check.j0]
    rw [if_pos trivial]
  unfold corebankref19_Check.f chkE
  rw [rkey_ev e.f6 (by omega) (k + 2) (by omega), Option.bind_some]
  by_cases c0 : keyB e.f6 = true
  case neg => rw [if_neg c0, if_neg c0]
  rw [if_pos c0, if_pos c0, ht, Option.bind_some]
  by_cases c1 : textB 32 64 e.f7 = true
  case neg => rw [if_neg c1, j0T, if_neg (show ¬ headB e from fun q => c1 q.1)]
  rw [if_pos c1, valid_ev, Option.bind_some]
  by_cases c2 : dayB e.f1 = true
  case neg => rw [if_neg c2, j0T, if_neg (show ¬ headB e from fun q => c2 q.2.1)]
  rw [if_pos c2, valid_ev, Option.bind_some]
  by_cases c3 : dayB e.f2 = true
  case neg => rw [if_neg c3, j0T, if_neg (show ¬ headB e from fun q => c3 q.2.2.1)]
  rw [if_pos c3]
  by_cases c5 : e.f3 < 1
  · rw [if_pos c5, j0T, if_neg (show ¬ headB e from fun q => by have := q.2.2.2.2.1; omega)]
  rw [if_neg c5]
  by_cases c6 : e.f3 > 14
  · rw [if_pos c6, j0T, if_neg (show ¬ headB e from fun q => by have := q.2.2.2.2.2.1; omega)]
  rw [if_neg c6]
  by_cases c7 : e.f4 < 0
  · rw [if_pos c7, j0T, if_neg (show ¬ headB e from fun q => by have := q.2.2.2.2.2.2.1; omega)]
  rw [if_neg c7]
  by_cases c8 : e.f4 > 3
  · rw [if_pos c8, j0T, if_neg (show ¬ headB e from fun q => by have := q.2.2.2.2.2.2.2; omega)]
  rw [if_neg c8]
  have j0F : corebankref19_Check.j0 (k + 2) false e.f0 e.f1 e.f2 e.f3 e.f4 e.f5 e.f6 e.f7 e.f8 e.f9 = some (if e.f8.length < 2 ∨ 12 < e.f8.length then 5 else legsE e.f8 (balE (sumsS e.f8))) := by
    simp only [corebankref19_Check.j0]
    rw [if_neg (by simp)]
    by_cases c9 : e.f8.length < 2
    · rw [if_pos (by omega), j1T, if_pos (Or.inl c9)]
    rw [if_neg (by omega)]
    by_cases c10 : 12 < e.f8.length
    · rw [decide_eq_true (by omega : (e.f8.length : Int) > 12), j1T, if_pos (Or.inr c10)]
    rw [decide_eq_false (by omega : ¬ (e.f8.length : Int) > 12), if_neg (by omega)]
    simp only [corebankref19_Check.j1]
    rw [if_neg (by simp)]
    have := rlegs_l0 e (by omega) (fun x hx => (hL x hx).2.1) e.f8.length k 0 rfl (by omega) (by omega)
    rw [List.drop_zero] at this
    exact this
  by_cases c4 : e.f5 = 0
  · rw [if_pos c4, j0F, if_pos (show headB e from ⟨c1, c2, c3, by rw [c4]; decide, by omega, by omega, by omega, by omega⟩)]
  rw [if_neg c4, valid_ev, Option.bind_some]
  by_cases c11 : dayB e.f5 = true
  case neg => rw [show (!dayB e.f5) = true by simpa using c11, j0T, if_neg (show ¬ headB e from fun q => c11 q.2.2.2.1)]
  rw [show (!dayB e.f5) = false by simp [c11], j0F, if_pos (show headB e from ⟨c1, c2, c3, c11, by omega, by omega, by omega, by omega⟩)]
end Go.Proofs.YtkfgnjdchnpjeaaDoor.Pure

end
section
namespace Go.Proofs.YtkfgnjdchnpjeaaDoor.Pure
open Go Go.RowKit Go.Proofs.YtkfgnjdchnpjeaaDoor Go.Proofs.YtkfgnjdchnpjeaaDoor.QD Go.Proofs.YtkfgnjdchnpjeaaDoorW.PrintWords
set_option linter.unusedVariables false
set_option linter.unusedSimpArgs false

/-- What Reverse answers. -/
def revS (e : S25) (s : ByteArray) (b : Int) : EntR := if chkE e = 0 ∧ keyB s = true ∧ dayB b = true then (0, b, e.f2, 11, 0, 0, s, revT e.f6, negL e.f8, 0, 0) else decZ 1
theorem rev_eq (e : S25) (hf : fitE e) (s : ByteArray) (hs : s.size ≤ 1000) (b : Int) : entry_Reverse.f e.f0 e.f1 e.f2 e.f3 e.f4 e.f5 e.f6 e.f7 e.f8 e.f9 s b = some (revS e s b) := by
  obtain ⟨-, -, -, -, -, -, h6, h7, h8, hL⟩ := hf
  unfold entry_Reverse.f revS
  rw [if_pos ⟨by omega, by omega⟩, check_ev e (by omega) (by omega) (by omega) (fun x hx => (hL x hx).2.2) _ (by omega), Option.bind_some]
  by_cases c0 : chkE e = 0
  case neg => rw [if_neg c0, if_neg (fun q => c0 q.1)]
  rw [if_pos c0, key_ev s (by omega) _ (by omega), Option.bind_some]
  by_cases c1 : keyB s = true
  case neg => rw [if_neg c1, if_neg (fun q => c1 q.2.1)]
  rw [if_pos c1, day_ev, Option.bind_some]
  by_cases c2 : dayB b = true
  case neg => rw [if_neg c2, if_neg (fun q => c2 q.2.2)]
  rw [if_pos c2, if_pos ⟨c0, c1, c2⟩]
end Go.Proofs.YtkfgnjdchnpjeaaDoor.Pure

end
section
namespace Go.Proofs.YtkfgnjdchnpjeaaDoor.Pure
open Go Go.RowKit Go.Proofs.YtkfgnjdchnpjeaaDoor Go.Proofs.YtkfgnjdchnpjeaaDoor.QD Go.Proofs.YtkfgnjdchnpjeaaDoorW.PrintWords
set_option linter.unusedVariables false
set_option linter.unusedSimpArgs false

theorem live_some : corebanklaw19_live.f = some true := rfl
theorem negated_l0 (l : List S46) (hl : l.length ≤ 1000) : ∀ (d k i : Nat) (a : List S46), l.length - i = d → i ≤ l.length → a.length ≤ i → d + 1 ≤ k → corebankref19_Negated.l0 k l a (i : Int) = some (a ++ negL (l.drop i))
  | d, 0, i, a, _, _, _, hk => by omega
  | d, k + 1, i, a, hd, hi, ha, hk => by
    simp only [corebankref19_Negated.l0]
    by_cases h : i < l.length
    · obtain ⟨x, hx, hr, -⟩ := rdL_drop l i h
      rw [if_pos (by omega), if_pos (by omega), if_pos (by omega), hr, w64s i (by omega), hx, negated_l0 l hl (d - 1) k (i + 1) _ (by omega) (by omega) (by rw [List.length_append, List.length_singleton]; omega) (by omega), List.append_assoc]
      rfl
    · rw [if_neg (by omega), List.drop_eq_nil_of_le (by omega)]
      show some a = some (a ++ [])
      rw [List.append_nil]
theorem negated_ev (l : List S46) (hl : l.length ≤ 1000) (k : Nat) (hk : l.length + 1 ≤ k) : corebankref19_Negated.f k l = some (negL l) := by
  have := negated_l0 l hl l.length k 0 [] rfl (by omega) (by simp) hk
  rw [List.drop_zero, List.nil_append] at this
  exact this
theorem rrev_ev (e : S25) (hf : fitE e) (s : ByteArray) (hs : s.size ≤ 1000) (b : Int) (k : Nat) (hk : 13000 ≤ k) : corebankref19_Reverse.f k e.f0 e.f1 e.f2 e.f3 e.f4 e.f5 e.f6 e.f7 e.f8 e.f9 s b = some (revS e s b) := by
  unfold corebankref19_Reverse.f revS
  rw [rcheck_ev e hf k hk, Option.bind_some]
  obtain ⟨-, -, -, -, -, -, h6, h7, h8, hL⟩ := hf
  by_cases c0 : chkE e = 0
  case neg => rw [if_neg c0, if_neg (fun q => c0 q.1)]; rfl
  rw [if_pos c0, rkey_ev s (by omega) _ (by omega), Option.bind_some]
  by_cases c1 : keyB s = true
  case neg => rw [if_neg c1, if_neg (fun q => c1 q.2.1)]; rfl
  rw [if_pos c1, valid_ev, Option.bind_some]
  by_cases c2 : dayB b = true
  case neg => rw [if_neg c2, if_neg (fun q => c2 q.2.2)]; rfl
  rw [if_pos c2, if_pos (by omega), negated_ev _ (by omega) _ (by omega), Option.bind_some, if_pos ⟨c0, c1, c2⟩]
  rfl
theorem rsame_ev (a0 a1 a2 a3 a4 a5 : Int) (a6 a7 : ByteArray) (l : List S46) (a9 : Int) (hl : l.length ≤ 1000000) (k : Nat) (hk : l.length + 1 ≤ k) : corebankref19_Same.f k a0 a1 a2 a3 a4 a5 a6 a7 l a9 a0 a1 a2 a3 a4 a5 a6 a7 l a9 = some true := by
  unfold corebankref19_Same.f
  rw [if_pos rfl, if_pos rfl, if_pos rfl, if_pos rfl, if_pos rfl, if_pos rfl, if_pos rfl, if_pos rfl, if_pos rfl, sameL_ev l hl k hk]
  rfl
theorem revS_len (e : S25) (h8 : e.f8.length ≤ 30) (s : ByteArray) (b : Int) {r1 r2 r3 r4 r5 r6 : Int} {r7 r8 : ByteArray} {r9 : List S46} {r10 r11 : Int} (h : revS e s b = (r1, r2, r3, r4, r5, r6, r7, r8, r9, r10, r11)) : r9.length ≤ 30 := by
  unfold revS at h
  split at h
  · simp only [Prod.mk.injEq] at h
    rw [← h.2.2.2.2.2.2.2.2.1, negL_len]
    exact h8
  · unfold decZ at h
    simp only [Prod.mk.injEq] at h
    rw [← h.2.2.2.2.2.2.2.2.1]
    simp
end Go.Proofs.YtkfgnjdchnpjeaaDoor.Pure

end
