/- EntLawA, EntLawB, EntLawC, EntLawD, EntLawE: what the law EntryReverses asks of it. -/
import Derived.Test.YtkfgnjdchnpjeaaDoorErOpenE
import Derived.Test.YtkfgnjdchnpjeaaDoorErText
import Derived.Test.YtkfgnjdchnpjeaaDoorErQDx3
import Derived.Test.YtkfgnjdchnpjeaaDoorErQDx6
import Derived.Test.YtkfgnjdchnpjeaaDoorErQDx0
import Derived.Test.YtkfgnjdchnpjeaaDoorErEntDel
import Derived.Test.YtkfgnjdchnpjeaaDoorErQDx1
import Derived.Test.YtkfgnjdchnpjeaaDoorErQDx5
import Derived.Test.YtkfgnjdchnpjeaaDoorErQDx4
import Derived.Test.YtkfgnjdchnpjeaaDoorErKeySum
import Derived.Test.YtkfgnjdchnpjeaaDoorErEntRev
import Derived.Test.YtkfgnjdchnpjeaaDoorErEntLive
section
namespace Go.Proofs.YtkfgnjdchnpjeaaDoor.Pure
open Go Go.RowKit Go.Proofs.YtkfgnjdchnpjeaaDoor Go.Proofs.YtkfgnjdchnpjeaaDoor.QD Go.Proofs.YtkfgnjdchnpjeaaDoorW.PrintWords
set_option linter.unusedVariables false
set_option linter.unusedSimpArgs false

def I64 (x : Int) : Prop := -9223372036854775808 ≤ x ∧ x ≤ 9223372036854775807
theorem wfI {a : Int} (h : (Lit.int .i64 a).wf = true) : I64 a := by
  have e1 : IntKind.i64.min = -9223372036854775808 := rfl
  have e2 : IntKind.i64.max = 9223372036854775807 := rfl
  simp [Lit.wf, e1, e2] at h
  exact h
/-- An entry that is not great. -/
def fitE (e : S25) : Prop := I64 e.f0 ∧ I64 e.f1 ∧ I64 e.f2 ∧ I64 e.f3 ∧ I64 e.f4 ∧ I64 e.f5 ∧ e.f6.size ≤ 1000 ∧ e.f7.size ≤ 1000 ∧ e.f8.length ≤ 30 ∧ (∀ x ∈ e.f8, I64 x.f0 ∧ I64 x.f1 ∧ x.f2.size ≤ 100)
theorem rdL_drop (l : List S46) (i : Nat) (h : i < l.length) : ∃ x, l.drop i = x :: l.drop (i + 1) ∧ rd_T46 l (i : Int) = x ∧ x ∈ l := by
  refine ⟨l[i], List.drop_eq_getElem_cons h, ?_, List.getElem_mem _⟩
  unfold rd_T46
  rw [Int.toNat_natCast, List.getD_eq_getElem?_getD, List.getElem?_eq_getElem h]
  rfl
theorem rdY_drop (l : List S44) (i : Nat) (h : i < l.length) : ∃ x, l.drop i = x :: l.drop (i + 1) ∧ rd_T44 l (i : Int) = x ∧ x ∈ l := by
  refine ⟨l[i], List.drop_eq_getElem_cons h, ?_, List.getElem_mem _⟩
  unfold rd_T44
  rw [Int.toNat_natCast, List.getD_eq_getElem?_getD, List.getElem?_eq_getElem h]
  rfl
/-- Great. -/
def greatB (e : S25) : Bool := decide (30 < e.f8.length) || decide (1000 < e.f6.size) || decide (1000 < e.f7.size) || e.f8.any fun x => decide (100 < x.f2.size)
theorem great_l0 (e : S25) (hl : e.f8.length ≤ 30) : ∀ (d k i : Nat), e.f8.length - i = d → i ≤ e.f8.length → d + 1 ≤ k →
    corebankref19_Great.l0 k (i : Int) e.f0 e.f1 e.f2 e.f3 e.f4 e.f5 e.f6 e.f7 e.f8 e.f9 = some ((e.f8.drop i).any fun x => decide (100 < x.f2.size))
  | d, 0, i, _, _, hk => by omega
  | d, k + 1, i, hd, hi, hk => by
    simp only [corebankref19_Great.l0]
    by_cases h : i < e.f8.length
    · obtain ⟨x, hx, hr, -⟩ := rdL_drop e.f8 i h
      rw [if_pos (by omega), if_pos (by omega), hr, hx, List.any_cons]
      by_cases h1 : 100 < x.f2.size
      · rw [if_pos (by omega), decide_eq_true h1]
        rfl
      · rw [if_neg (by omega), decide_eq_false h1, w64s i (by omega)]
        exact great_l0 e hl (d - 1) k (i + 1) (by omega) (by omega) (by omega)
    · rw [if_neg (by omega), List.drop_eq_nil_of_le (by omega)]
      rfl
theorem great_ev (e : S25) (k : Nat) (hk : 40 ≤ k) : corebankref19_Great.f k e.f0 e.f1 e.f2 e.f3 e.f4 e.f5 e.f6 e.f7 e.f8 e.f9 = some (greatB e) := by
  obtain ⟨k, rfl⟩ : ∃ n, k = n + 1 := ⟨k - 1, by omega⟩
  unfold corebankref19_Great.f greatB
  simp only [corebankref19_Great.j0]
  by_cases h1 : 30 < e.f8.length
  · rw [if_pos (by omega), if_pos trivial, decide_eq_true h1]
    rfl
  · rw [if_neg (by omega), decide_eq_false h1]
    by_cases h2 : 1000 < e.f6.size
    · rw [if_pos (by omega), if_pos trivial, decide_eq_true h2]
      rfl
    · rw [if_neg (by omega), decide_eq_false h2]
      by_cases h3 : 1000 < e.f7.size
      · rw [decide_eq_true (by omega : (e.f7.size : Int) > 1000), if_pos rfl, decide_eq_true h3]
        rfl
      · rw [decide_eq_false (by omega : ¬ (e.f7.size : Int) > 1000), if_neg (by simp), decide_eq_false h3]
        have := great_l0 e (by omega) e.f8.length k 0 rfl (by omega) (by omega)
        rw [List.drop_zero] at this
        exact this
theorem great_fit {e : S25} (ho : okT25 140737488351232 e) (h : greatB e = false) : fitE e := by
  obtain ⟨w0, w1, w2, w3, w4, w5, -, -, ⟨-, hL⟩, -⟩ := ho
  unfold greatB at h
  simp only [Bool.or_eq_false_iff, decide_eq_false_iff_not] at h
  obtain ⟨⟨⟨h1, h2⟩, h3⟩, h4⟩ := h
  refine ⟨wfI w0, wfI w1, wfI w2, wfI w3, wfI w4, wfI w5, by omega, by omega, by omega, fun x hx => ?_⟩
  have := List.any_eq_false.1 h4 x hx
  obtain ⟨a, b, -⟩ := hL x hx
  exact ⟨wfI a, wfI b, by simpa using this⟩
/-- A text's signs and its size. -/
def textB (lo most : Nat) (x : ByteArray) : Bool := (x.data.toList.all fun c => decide (lo ≤ c.toNat) && decide (c.toNat ≤ 126)) && decide (x.size ≤ most)
def keyB (x : ByteArray) : Bool := decide (1 ≤ x.size) && textB 33 48 x
def codeB (x : ByteArray) : Bool := (x.data.toList.all fun c => decide (65 ≤ c.toNat) && decide (c.toNat ≤ 90)) && decide (x.size = 3)
def dayB (n : Int) : Bool := decide (0 ≤ n) && decide (n ≤ 73048)
theorem text_l0 (lo most : Nat) (x : ByteArray) (hx : x.size ≤ 100000) : ∀ (d k i : Nat), x.size - i = d → i ≤ x.size → d + 1 ≤ k →
    entry_text.l0 k x (lo : Int) (most : Int) (x.size : Int) (i : Int) = some (((x.data.toList.drop i).all fun c => decide (lo ≤ c.toNat) && decide (c.toNat ≤ 126)) && decide (x.size ≤ most))
  | d, 0, i, _, _, hk => by omega
  | d, k + 1, i, hd, hi, hk => by
    simp only [entry_text.l0]
    by_cases h : i < x.size
    · obtain ⟨c, hc, hb, hc2⟩ := bt_drop x i h
      rw [if_pos (by omega), if_pos (by omega), if_pos (by omega), hb, hc, w64s i (by omega), text_l0 lo most x hx (d - 1) k (i + 1) (by omega) (by omega) (by omega), List.all_cons]
      by_cases h1 : lo ≤ c.toNat
      · by_cases h2 : c.toNat ≤ 126
        · rw [if_neg (by omega), if_neg (by omega), decide_eq_true h1, decide_eq_true h2]
          simp
        · rw [if_neg (by omega), if_pos (by omega), decide_eq_true h1, decide_eq_false h2]
          simp
      · rw [if_pos (by omega), decide_eq_false h1]
        simp
    · rw [if_neg (by omega), List.drop_eq_nil_of_le (by rw [Array.length_toList]; exact Nat.le_of_not_lt h), List.all_nil, Bool.true_and]
      congr 1
      by_cases h2 : x.size ≤ most
      · rw [decide_eq_true h2, decide_eq_true (by omega)]
      · rw [decide_eq_false h2, decide_eq_false (by omega)]
theorem text_ev (lo most : Nat) (x : ByteArray) (hx : x.size ≤ 100000) (k : Nat) (hk : x.size + 1 ≤ k) : entry_text.f k x (lo : Int) (most : Int) = some (textB lo most x) := by
  have := text_l0 lo most x hx x.size k 0 rfl (by omega) hk
  rw [List.drop_zero] at this
  exact this
theorem key_ev (x : ByteArray) (hx : x.size ≤ 100000) (k : Nat) (hk : x.size + 1 ≤ k) : entry_key.f k x = some (keyB x) := by
  unfold entry_key.f keyB
  have h3 : entry_text.f k x 33 48 = some (textB 33 48 x) := text_ev 33 48 x hx k hk
  by_cases h : 1 ≤ x.size
  · rw [if_neg (fun e => by rw [toList_eqv] at e; have := size_list x; rw [e] at this; simp at this; omega), h3, decide_eq_true h]
    rfl
  · have h0 : x.toList = [] := by rw [toList_eqv]; exact List.eq_nil_of_length_eq_zero (by rw [size_list]; omega)
    rw [if_pos h0, decide_eq_false h]
    rfl
theorem day_ev (n : Int) : entry_day.f n = some (dayB n) := by
  unfold entry_day.f dayB
  by_cases h : 0 ≤ n
  · rw [if_pos h, decide_eq_true h, Bool.true_and]
  · rw [if_neg h, decide_eq_false h, Bool.false_and]
theorem code_l0 (x : ByteArray) (hx : x.size ≤ 100000) : ∀ (d k i : Nat), x.size - i = d → i ≤ x.size → d + 1 ≤ k →
    entry_code.l0 k x (x.size : Int) (i : Int) = some (((x.data.toList.drop i).all fun c => decide (65 ≤ c.toNat) && decide (c.toNat ≤ 90)) && decide (x.size = 3))
  | d, 0, i, _, _, hk => by omega
  | d, k + 1, i, hd, hi, hk => by
    simp only [entry_code.l0]
    by_cases h : i < x.size
    · obtain ⟨c, hc, hb, hc2⟩ := bt_drop x i h
      rw [if_pos (by omega), if_pos (by omega), if_pos (by omega), hb, hc, w64s i (by omega), code_l0 x hx (d - 1) k (i + 1) (by omega) (by omega) (by omega), List.all_cons]
      by_cases h1 : 65 ≤ c.toNat
      · by_cases h2 : c.toNat ≤ 90
        · rw [if_neg (by omega), if_neg (by omega), decide_eq_true h1, decide_eq_true h2]
          simp
        · rw [if_neg (by omega), if_pos (by omega), decide_eq_true h1, decide_eq_false h2]
          simp
      · rw [if_pos (by omega), decide_eq_false h1]
        simp
    · rw [if_neg (by omega), List.drop_eq_nil_of_le (by rw [Array.length_toList]; exact Nat.le_of_not_lt h), List.all_nil, Bool.true_and]
      congr 1
      by_cases h2 : x.size = 3
      · rw [decide_eq_true h2, h2]
        rfl
      · rw [decide_eq_false h2]
        exact beq_eq_false_iff_ne.2 (by omega)
theorem code_ev (x : ByteArray) (hx : x.size ≤ 100000) (k : Nat) (hk : x.size + 1 ≤ k) : entry_code.f k x = some (codeB x) := by
  have := code_l0 x hx x.size k 0 rfl (by omega) hk
  rw [List.drop_zero] at this
  exact this
/-- The first error of a leg. -/
def legE (x : S46) : Int := if x.f0 < 1 ∨ x.f1 = 0 ∨ x.f1 < -1000000000000 ∨ 1000000000000 < x.f1 then 1 else if codeB x.f2 = true then 0 else 14
end Go.Proofs.YtkfgnjdchnpjeaaDoor.Pure

end
section
namespace Go.Proofs.YtkfgnjdchnpjeaaDoor.Pure
open Go Go.RowKit Go.Proofs.YtkfgnjdchnpjeaaDoor Go.Proofs.YtkfgnjdchnpjeaaDoor.QD Go.Proofs.YtkfgnjdchnpjeaaDoorW.PrintWords
set_option linter.unusedVariables false
set_option linter.unusedSimpArgs false

theorem wI {n : Int} (h : I64 n) : wrap64 n = n := w64 h.1 h.2
end Go.Proofs.YtkfgnjdchnpjeaaDoor.Pure

end
section
namespace Go.Proofs.YtkfgnjdchnpjeaaDoor.Pure
open Go Go.RowKit Go.Proofs.YtkfgnjdchnpjeaaDoor Go.Proofs.YtkfgnjdchnpjeaaDoor.QD Go.Proofs.YtkfgnjdchnpjeaaDoorW.PrintWords
set_option linter.unusedVariables false
set_option linter.unusedSimpArgs false

/-- The first error of legs; z if there is none. -/
def legsE : List S46 → Int → Int
  | [], z => z
  | x :: r, z => if legE x = 0 then legsE r z else legE x
def balE (l : List S44) : Int := if (l.all fun y => decide (y.f1 = 0)) = true then 0 else 15
def headB (e : S25) : Prop := textB 32 64 e.f7 = true ∧ dayB e.f1 = true ∧ dayB e.f2 = true ∧ dayB e.f5 = true ∧ 1 ≤ e.f3 ∧ e.f3 ≤ 14 ∧ 0 ≤ e.f4 ∧ e.f4 ≤ 3
instance (e : S25) : Decidable (headB e) := inferInstanceAs (Decidable (_ ∧ _))
def chkE (e : S25) : Int := if keyB e.f6 = true then (if headB e then (if e.f8.length < 2 ∨ 12 < e.f8.length then 5 else legsE e.f8 (balE (sumsS e.f8))) else 1) else 4
theorem bal_l1 (l : List S44) (hl : l.length ≤ 1000) : ∀ (d k i : Nat), l.length - i = d → i ≤ l.length → d + 1 ≤ k → entry_Check.l1 k l (l.length : Int) (i : Int) = some (balE (l.drop i))
  | d, 0, i, _, _, hk => by omega
  | d, k + 1, i, hd, hi, hk => by
    simp only [entry_Check.l1]
    by_cases h : i < l.length
    · obtain ⟨y, hy, hr, -⟩ := rdY_drop l i h
      rw [if_pos (by omega), if_pos (by omega), if_pos (by omega), hr, w64s i (by omega), hy]
      unfold balE
      rw [List.all_cons]
      by_cases h1 : y.f1 = 0
      · rw [if_pos h1, decide_eq_true h1, Bool.true_and]
        exact bal_l1 l hl (d - 1) k (i + 1) (by omega) (by omega) (by omega)
      · rw [if_neg h1, decide_eq_false h1, Bool.false_and, if_neg (by simp)]
    · rw [if_neg (by omega), List.drop_eq_nil_of_le (by omega)]
      rfl
theorem sums_eq (l : List S46) (hl : l.length ≤ 100000) : entry_Sums.f l = some (sumsS l) := by
  unfold entry_Sums.f
  rw [if_pos hl]
theorem net_eq (l : List S46) (hl : l.length ≤ 100000) : entry_Net.f l = some (netS l) := by
  unfold entry_Net.f
  rw [if_pos hl]
theorem legE_bad {x : S46} (h : x.f0 < 1 ∨ x.f1 = 0 ∨ x.f1 < -1000000000000 ∨ 1000000000000 < x.f1) : legE x = 1 := by
  unfold legE
  rw [if_pos h]
theorem legE_ok {x : S46} (h : ¬ (x.f0 < 1 ∨ x.f1 = 0 ∨ x.f1 < -1000000000000 ∨ 1000000000000 < x.f1)) : legE x = if codeB x.f2 = true then 0 else 14 := by
  unfold legE
  rw [if_neg h]
theorem legs_l0 (e : S25) (hl : e.f8.length ≤ 1000) (hc : ∀ x ∈ e.f8, x.f2.size ≤ 100) : ∀ (d k i : Nat), e.f8.length - i = d → i ≤ e.f8.length → d * 2 + 1200 ≤ k →
    entry_Check.l0 k e.f8 (e.f8.length : Int) (i : Int) e.f0 e.f1 e.f2 e.f3 e.f4 e.f5 e.f6 e.f7 e.f8 e.f9 = some (legsE (e.f8.drop i) (balE (sumsS e.f8)))
  | d, 0, i, _, _, hk => by omega
  | d, 1, i, _, _, hk => by omega
  | d, k + 2, i, hd, hi, hk => by
    simp only [entry_Check.l0]
    by_cases h : i < e.f8.length
    · obtain ⟨x, hx, hr, hm⟩ := rdL_drop e.f8 i h
      have hs := hc x hm
      rw [if_pos (by omega), if_pos (by omega), if_pos (by omega), hr, hx, legsE]
      have jT : entry_Check.j3 (k + 1) e.f8 (e.f8.length : Int) (i : Int) true e.f0 e.f1 e.f2 e.f3 e.f4 e.f5 e.f6 e.f7 e.f8 e.f9 x.f0 x.f1 x.f2 = some 1 := by
        simp only [entry_Check.j3]
        rw [if_pos trivial]
      by_cases h1 : x.f0 < 1
      · rw [if_pos h1, jT, legE_bad (Or.inl h1), if_neg (by decide)]
      · rw [if_neg h1]
        by_cases h2 : x.f1 = 0
        · rw [if_pos h2, jT, legE_bad (Or.inr (Or.inl h2)), if_neg (by decide)]
        · rw [if_neg h2]
          by_cases h3 : x.f1 < -1000000000000
          · rw [if_pos h3, jT, legE_bad (Or.inr (Or.inr (Or.inl h3))), if_neg (by decide)]
          · rw [if_neg h3]
            by_cases h4 : 1000000000000 < x.f1
            · rw [decide_eq_true h4, jT, legE_bad (Or.inr (Or.inr (Or.inr h4))), if_neg (by decide)]
            · rw [decide_eq_false h4, legE_ok (by omega)]
              simp only [entry_Check.j3]
              rw [if_neg (by simp), code_ev x.f2 (by omega) k (by omega), Option.bind_some]
              by_cases h5 : codeB x.f2 = true
              · rw [if_pos h5, if_pos h5, if_pos rfl, w64s i (by omega)]
                exact legs_l0 e hl hc (d - 1) k (i + 1) (by omega) (by omega) (by omega)
              · rw [if_neg h5, if_neg h5, if_neg (by decide)]
    · rw [if_neg (by omega), List.drop_eq_nil_of_le (by omega), sums_eq _ (by omega), Option.bind_some]
      have hsl := sumsS_len e.f8
      have := bal_l1 (sumsS e.f8) (by omega) (sumsS e.f8).length (k + 1) 0 rfl (by omega) (by omega)
      rw [List.drop_zero] at this
      exact this
theorem check_ev (e : S25) (h6 : e.f6.size ≤ 1100) (h7 : e.f7.size ≤ 1100) (hl : e.f8.length ≤ 1000) (hc : ∀ x ∈ e.f8, x.f2.size ≤ 100) (k : Nat) (hk : 4000 ≤ k) : entry_Check.f k e.f0 e.f1 e.f2 e.f3 e.f4 e.f5 e.f6 e.f7 e.f8 e.f9 = some (chkE e) := by
  obtain ⟨k, rfl⟩ : ∃ n, k = n + 2 := ⟨k - 2, by omega⟩
  have ht : entry_text.f (k + 2) e.f7 32 64 = some (textB 32 64 e.f7) := text_ev 32 64 e.f7 (by omega) (k + 2) (by omega)
  have j1T : ∀ m, entry_Check.j1 (m + 1) true e.f0 e.f1 e.f2 e.f3 e.f4 e.f5 e.f6 e.f7 e.f8 e.f9 = some 1 := fun m => by
    simp only [entry_Check.j1]
    rw [if_pos trivial]
  have j0T : ∀ m, entry_Check.j0 (m + 1) true e.f0 e.f1 e.f2 e.f3 e.f4 e.f5 e.f6 e.f7 e.f8 e.f9 = some 1 := fun m => by
    simp only [entry_Check.j0]
    rw [if_pos trivial]
  unfold entry_Check.f chkE
  rw [key_ev e.f6 (by omega) (k + 2) (by omega), Option.bind_some]
  by_cases c0 : keyB e.f6 = true
  case neg => rw [if_neg c0, if_neg c0]
  rw [if_pos c0, if_pos c0, ht, Option.bind_some]
  by_cases c1 : textB 32 64 e.f7 = true
  case neg => rw [if_neg c1, j0T, if_neg (show ¬ headB e from fun q => c1 q.1)]
  rw [if_pos c1, day_ev, Option.bind_some]
  by_cases c2 : dayB e.f1 = true
  case neg => rw [if_neg c2, j0T, if_neg (show ¬ headB e from fun q => c2 q.2.1)]
  rw [if_pos c2, day_ev, Option.bind_some]
  by_cases c3 : dayB e.f2 = true
  case neg => rw [if_neg c3, j0T, if_neg (show ¬ headB e from fun q => c3 q.2.2.1)]
  rw [if_pos c3, day_ev, Option.bind_some]
  by_cases c4 : dayB e.f5 = true
  case neg => rw [show (!dayB e.f5) = true by simpa using c4, j0T, if_neg (show ¬ headB e from fun q => c4 q.2.2.2.1)]
  rw [show (!dayB e.f5) = false by simp [c4]]
  simp only [entry_Check.j0]
  rw [if_neg (by simp)]
  by_cases c5 : e.f3 < 1
  · rw [if_pos c5, j1T, if_neg (show ¬ headB e from fun q => by have := q.2.2.2.2.1; omega)]
  rw [if_neg c5]
  by_cases c6 : e.f3 > 14
  · rw [if_pos c6, j1T, if_neg (show ¬ headB e from fun q => by have := q.2.2.2.2.2.1; omega)]
  rw [if_neg c6]
  by_cases c7 : e.f4 < 0
  · rw [if_pos c7, j1T, if_neg (show ¬ headB e from fun q => by have := q.2.2.2.2.2.2.1; omega)]
  rw [if_neg c7]
  by_cases c8 : e.f4 > 3
  · rw [decide_eq_true c8, j1T, if_neg (show ¬ headB e from fun q => by have := q.2.2.2.2.2.2.2; omega)]
  rw [decide_eq_false c8, if_pos (show headB e from ⟨c1, c2, c3, c4, by omega, by omega, by omega, by omega⟩)]
  simp only [entry_Check.j1]
  rw [if_neg (by simp)]
  by_cases c9 : e.f8.length < 2
  · rw [if_pos (by omega), if_pos (Or.inl c9)]
  rw [if_neg (by omega)]
  by_cases c10 : 12 < e.f8.length
  · rw [if_pos (by omega), if_pos (Or.inr c10)]
  rw [if_neg (by omega), if_neg (by omega)]
  have := legs_l0 e (by omega) hc e.f8.length k 0 rfl (by omega) (by omega)
  rw [List.drop_zero] at this
  exact this
end Go.Proofs.YtkfgnjdchnpjeaaDoor.Pure

end
section
namespace Go.Proofs.YtkfgnjdchnpjeaaDoor.Pure
open Go Go.RowKit Go.Proofs.YtkfgnjdchnpjeaaDoor Go.Proofs.YtkfgnjdchnpjeaaDoor.QD Go.Proofs.YtkfgnjdchnpjeaaDoorW.PrintWords
set_option linter.unusedVariables false
set_option linter.unusedSimpArgs false

theorem I64_wrap (n : Int) : I64 (wrap64 n) := by unfold I64 wrap64; omega
/-- Amounts by currency, and by account and currency. -/
def curs (l : List S46) : List (ByteArray × Int) := l.map fun x => (x.f2, x.f1)
def legsK (l : List S46) : List ((Int × ByteArray) × Int) := l.map fun x => (keyL x, x.f1)
theorem cmpL_key (a : S46) (k : Int × ByteArray) : cmpL a k = 0 ↔ keyL a = k := by
  rw [cmpL_zero]
  unfold keyL
  constructor
  · rintro ⟨h1, h2⟩; rw [h1, h2]
  · intro h; rw [← h]; exact ⟨rfl, rfl⟩
theorem addL_step (o : List S46) (x : S46) (h : I64 x.f1) : addL o x = stepA cmpL mkL put1L (fun y : S46 => y.f1) o (keyL x, x.f1) := by
  unfold addL stepA
  rw [wI h]
theorem coll_fold : ∀ (l : List S46) (o : List S46), (∀ x ∈ l, I64 x.f1) → l.foldl addL o = (legsK l).foldl (stepA cmpL mkL put1L (fun y : S46 => y.f1)) o
  | [], o, _ => rfl
  | x :: r, o, h => by
    rw [List.foldl_cons, addL_step o x (h x List.mem_cons_self), coll_fold r _ (fun y hy => h y (List.mem_cons_of_mem _ hy))]
    rfl
theorem sums_fold : ∀ (l : List S46) (o : List S44), l.foldl addY o = (curs l).foldl (stepA cfY mkY put1Y (fun y : S44 => y.f1)) o
  | [], o => rfl
  | x :: r, o => by
    rw [List.foldl_cons, sums_fold r]
    unfold curs addY stepA
    rw [List.map_cons, List.foldl_cons, Int.zero_add]
theorem cfY_key (a : S44) (k : ByteArray) : cfY a k = 0 ↔ a.f0 = k := cmpT_zero _ _
theorem coll_inv (l : List S46) (h : ∀ x ∈ l, I64 x.f1) : (∀ y ∈ collS l, y.f1 = wrap64 (totA (legsK l) (keyL y))) ∧ ∀ k, (∃ y ∈ collS l, keyL y = k) ↔ ∃ p ∈ legsK l, p.1 = k := by
  have h0 := fold_inv (val := fun y : S46 => y.f1) ordL cmpL_key (fun _ _ => rfl) (fun _ _ => rfl) (legsK l) [] (fun _ => 0) (by simp [sortedK]) (fun y hy => absurd hy (by simp)) (fun _ _ => rfl)
  rw [← coll_fold l [] h] at h0
  obtain ⟨-, h2, h3⟩ := h0
  refine ⟨fun y hy => ?_, fun k => ?_⟩
  · have := h2 y hy
    rw [Int.zero_add] at this
    exact this
  · refine Iff.trans (h3 k) ?_
    constructor
    · rintro (⟨y, hy, -⟩ | h)
      · exact absurd hy (by simp)
      · exact h
    · exact .inr
theorem sums_inv (l : List S46) : (∀ y ∈ sumsS l, y.f1 = wrap64 (totA (curs l) y.f0)) ∧ ∀ k, (∃ y ∈ sumsS l, y.f0 = k) ↔ ∃ p ∈ curs l, p.1 = k := by
  have h0 := fold_inv (val := fun y : S44 => y.f1) ordY cfY_key (fun _ _ => rfl) (fun _ _ => rfl) (curs l) [] (fun _ => 0) (by simp [sortedK]) (fun y hy => absurd hy (by simp)) (fun _ _ => rfl)
  rw [← sums_fold l []] at h0
  obtain ⟨-, h2, h3⟩ := h0
  refine ⟨fun y hy => ?_, fun k => ?_⟩
  · have := h2 y hy
    rw [Int.zero_add] at this
    exact this
  · refine Iff.trans (h3 k) ?_
    constructor
    · rintro (⟨y, hy, -⟩ | h)
      · exact absurd hy (by simp)
      · exact h
    · exact .inr
theorem keep_mem {l : List S46} {x : S46} : x ∈ keepL l ↔ x ∈ l ∧ x.f1 ≠ 0 := by
  unfold keepL
  rw [List.mem_filter]
  simp
theorem tot_negK (k : Int × ByteArray) : ∀ l : List S46, (∀ x ∈ l, -1000000000000 ≤ x.f1 ∧ x.f1 ≤ 1000000000000) → totA (legsK (negL l)) k = - totA (legsK l) k
  | [], _ => rfl
  | x :: r, h => by
    obtain ⟨h1, h2⟩ := h x List.mem_cons_self
    have e1 : totA (legsK (x :: r)) k = (if keyL x = k then x.f1 else 0) + totA (legsK r) k := rfl
    have e2 : totA (legsK (negL (x :: r))) k = (if keyL x = k then wrap64 (-x.f1) else 0) + totA (legsK (negL r)) k := rfl
    have hw : wrap64 (-x.f1) = -x.f1 := w64 (by omega) (by omega)
    rw [e1, e2, tot_negK k r (fun y hy => h y (List.mem_cons_of_mem _ hy)), hw]
    split <;> omega
theorem tot_negC (k : ByteArray) : ∀ l : List S46, (∀ x ∈ l, -1000000000000 ≤ x.f1 ∧ x.f1 ≤ 1000000000000) → totA (curs (negL l)) k = - totA (curs l) k
  | [], _ => rfl
  | x :: r, h => by
    obtain ⟨h1, h2⟩ := h x List.mem_cons_self
    have e1 : totA (curs (x :: r)) k = (if x.f2 = k then x.f1 else 0) + totA (curs r) k := rfl
    have e2 : totA (curs (negL (x :: r))) k = (if x.f2 = k then wrap64 (-x.f1) else 0) + totA (curs (negL r)) k := rfl
    have hw : wrap64 (-x.f1) = -x.f1 := w64 (by omega) (by omega)
    rw [e1, e2, tot_negC k r (fun y hy => h y (List.mem_cons_of_mem _ hy)), hw]
    split <;> omega
theorem negL_mem {l : List S46} {x : S46} (h : x ∈ negL l) : ∃ y ∈ l, x = ⟨y.f0, wrap64 (-y.f1), y.f2⟩ := by
  unfold negL at h
  obtain ⟨y, hy, e⟩ := List.mem_map.1 h
  exact ⟨y, hy, e.symm⟩
theorem net_cancel (l : List S46) (h : ∀ x ∈ l, -1000000000000 ≤ x.f1 ∧ x.f1 ≤ 1000000000000) : netS (l ++ negL l) = [] := by
  have hI : ∀ x ∈ l ++ negL l, I64 x.f1 := fun x hx => by
    rcases List.mem_append.1 hx with hx | hx
    · have := h x hx
      unfold I64
      omega
    · obtain ⟨y, -, rfl⟩ := negL_mem hx
      exact I64_wrap _
  refine List.eq_nil_iff_forall_not_mem.2 (fun y hy => ?_)
  obtain ⟨h1, h2⟩ := keep_mem.1 (show y ∈ keepL (collS (l ++ negL l)) from hy)
  have h3 := (coll_inv _ hI).1 y h1
  have e : legsK (l ++ negL l) = legsK l ++ legsK (negL l) := by unfold legsK; rw [List.map_append]
  rw [e, totA_app, tot_negK _ l h, Int.add_right_neg, wrap_zero] at h3
  exact h2 h3
theorem legsE_zero : ∀ (l : List S46) (z : Int), legsE l z = 0 → (∀ x ∈ l, legE x = 0) ∧ z = 0
  | [], z, h => ⟨fun x hx => absurd hx (by simp), h⟩
  | x :: r, z, h => by
    rw [legsE] at h
    by_cases h1 : legE x = 0
    · rw [if_pos h1] at h
      obtain ⟨h2, h3⟩ := legsE_zero r z h
      exact ⟨fun y hy => by rcases List.mem_cons.1 hy with rfl | hy; exact h1; exact h2 y hy, h3⟩
    · rw [if_neg h1] at h
      exact absurd h h1
theorem legsE_all : ∀ (l : List S46), (∀ x ∈ l, legE x = 0) → legsE l 0 = 0
  | [], _ => rfl
  | x :: r, h => by rw [legsE, if_pos (h x List.mem_cons_self), legsE_all r (fun y hy => h y (List.mem_cons_of_mem _ hy))]
theorem legE_bounds {x : S46} (h : legE x = 0) : 1 ≤ x.f0 ∧ x.f1 ≠ 0 ∧ -1000000000000 ≤ x.f1 ∧ x.f1 ≤ 1000000000000 ∧ codeB x.f2 = true := by
  unfold legE at h
  split at h
  · omega
  · split at h
    · next h1 h2 => exact ⟨by omega, by omega, by omega, by omega, h2⟩
    · omega
theorem legE_neg {x : S46} (h : legE x = 0) : legE ⟨x.f0, wrap64 (-x.f1), x.f2⟩ = 0 := by
  obtain ⟨h1, h2, h3, h4, h5⟩ := legE_bounds h
  have hw : wrap64 (-x.f1) = -x.f1 := w64 (by omega) (by omega)
  rw [legE_ok (by dsimp only; rw [hw]; omega), if_pos h5]
theorem balE_zero (l : List S44) : balE l = 0 ↔ ∀ y ∈ l, y.f1 = 0 := by
  unfold balE
  constructor
  · intro h y hy
    split at h
    · next h1 => simpa using List.all_eq_true.1 h1 y hy
    · omega
  · intro h
    rw [if_pos (List.all_eq_true.2 fun y hy => by simpa using h y hy)]
theorem text_all {lo most : Nat} {x : ByteArray} : textB lo most x = true ↔ (∀ c ∈ x.data.toList, lo ≤ c.toNat ∧ c.toNat ≤ 126) ∧ x.size ≤ most := by
  unfold textB
  rw [Bool.and_eq_true, List.all_eq_true, decide_eq_true_eq]
  simp only [Bool.and_eq_true, decide_eq_true_eq]
theorem rev_text {s : ByteArray} (h : keyB s = true) : textB 32 64 (revT s) = true := by
  unfold keyB at h
  rw [Bool.and_eq_true] at h
  obtain ⟨h1, h2⟩ := text_all.1 h.2
  refine text_all.2 ⟨fun c hc => ?_, ?_⟩
  · unfold revT at hc
    rw [app_data, List.mem_append] at hc
    rcases hc with hc | hc
    · have : c ∈ [(114 : UInt8), 101, 118, 101, 114, 115, 101, 32] := hc
      simp only [List.mem_cons, List.not_mem_nil, or_false] at this
      rcases this with rfl | rfl | rfl | rfl | rfl | rfl | rfl | rfl <;> decide
    · have := h1 c hc
      omega
  · unfold revT
    rw [ByteArray.size_append]
    show 8 + s.size ≤ 64
    omega
/-- The reversal of a valid entry is valid. -/
theorem chk_rev {e : S25} (h : chkE e = 0) {s : ByteArray} (hs : keyB s = true) {b : Int} (hb : dayB b = true) (z : Int) : chkE ⟨0, b, e.f2, 11, 0, 0, s, revT e.f6, negL e.f8, z⟩ = 0 := by
  unfold chkE at h
  by_cases c0 : keyB e.f6 = true
  case neg => rw [if_neg c0] at h; omega
  rw [if_pos c0] at h
  by_cases c1 : headB e
  case neg => rw [if_neg c1] at h; omega
  rw [if_pos c1] at h
  by_cases c2 : e.f8.length < 2 ∨ 12 < e.f8.length
  case pos => rw [if_pos c2] at h; omega
  rw [if_neg c2] at h
  obtain ⟨h1, h2⟩ := legsE_zero _ _ h
  have hbd : ∀ x ∈ e.f8, -1000000000000 ≤ x.f1 ∧ x.f1 ≤ 1000000000000 := fun x hx => by
    obtain ⟨-, -, p, q, -⟩ := legE_bounds (h1 x hx)
    exact ⟨p, q⟩
  have hsz := (sums_inv e.f8).1
  have hkz := (sums_inv e.f8).2
  have hbal : balE (sumsS (negL e.f8)) = 0 := by
    rw [balE_zero]
    intro y hy
    rw [(sums_inv (negL e.f8)).1 y hy, tot_negC _ _ hbd]
    refine wrap_neg_zero ?_
    obtain ⟨p, hp, hpk⟩ := ((sums_inv (negL e.f8)).2 y.f0).1 ⟨y, hy, rfl⟩
    unfold curs at hp
    obtain ⟨x, hx, rfl⟩ := List.mem_map.1 hp
    obtain ⟨x0, hx0, rfl⟩ := negL_mem hx
    have hk : x0.f2 = y.f0 := hpk
    obtain ⟨y', hy', e'⟩ := (hkz y.f0).2 ⟨(x0.f2, x0.f1), List.mem_map.2 ⟨x0, hx0, rfl⟩, hk⟩
    have := hsz y' hy'
    rw [(balE_zero _).1 h2 y' hy', e'] at this
    exact this.symm
  have hh : headB ⟨0, b, e.f2, 11, 0, 0, s, revT e.f6, negL e.f8, z⟩ := ⟨rev_text c0, hb, c1.2.2.1, by show dayB 0 = true; decide, by show (1 : Int) ≤ 11; omega, by show (11 : Int) ≤ 14; omega, by show (0 : Int) ≤ 0; omega, by show (0 : Int) ≤ 3; omega⟩
  unfold chkE
  rw [if_pos hs, if_pos hh]
  dsimp only
  rw [negL_len, if_neg c2, hbal]
  exact legsE_all _ (fun x hx => by
    obtain ⟨x0, hx0, rfl⟩ := negL_mem hx
    exact legE_neg (h1 x0 hx0))
theorem chk_legs {e : S25} (h : chkE e = 0) : (∀ x ∈ e.f8, -1000000000000 ≤ x.f1 ∧ x.f1 ≤ 1000000000000) ∧ e.f8.length ≤ 12 := by
  unfold chkE at h
  by_cases c0 : keyB e.f6 = true
  case neg => rw [if_neg c0] at h; omega
  rw [if_pos c0] at h
  by_cases c1 : headB e
  case neg => rw [if_neg c1] at h; omega
  rw [if_pos c1] at h
  by_cases c2 : e.f8.length < 2 ∨ 12 < e.f8.length
  case pos => rw [if_pos c2] at h; omega
  rw [if_neg c2] at h
  obtain ⟨h1, h2⟩ := legsE_zero _ _ h
  exact ⟨fun x hx => by
    obtain ⟨-, -, p, q, -⟩ := legE_bounds (h1 x hx)
    exact ⟨p, q⟩, by omega⟩
/-- What Reverse answers. -/
def revS (e : S25) (s : ByteArray) (b : Int) : EntR := if chkE e = 0 ∧ keyB s = true ∧ dayB b = true then (0, b, e.f2, 11, 0, 0, s, revT e.f6, negL e.f8, 0, 0) else decZ 1
theorem rev_eq (e : S25) (hf : fitE e) (s : ByteArray) (hs : s.size ≤ 1000) (b : Int) : entry_Reverse.f e.f0 e.f1 e.f2 e.f3 e.f4 e.f5 e.f6 e.f7 e.f8 e.f9 s b = some (revS e s b) := by
  obtain ⟨-, -, -, -, -, -, h6, h7, h8, hL⟩ := hf
  unfold entry_Reverse.f revS
  rw [if_pos ⟨by omega, by omega⟩, check_ev e (by omega) (by omega) (by omega) (fun x hx => (hL x hx).2.2) _ (by omega), Option.bind_some]
  by_cases c0 : chkE e = 0
  case neg => rw [if_neg c0, if_neg (fun q => c0 q.1)]
  rw [if_pos c0, key_ev s (by omega) _ (by omega), Option.bind_some]
  by_cases c1 : keyB s = true
  case neg => rw [if_neg c1, if_neg (fun q => c1 q.2.1)]
  rw [if_pos c1, day_ev, Option.bind_some]
  by_cases c2 : dayB b = true
  case neg => rw [if_neg c2, if_neg (fun q => c2 q.2.2)]
  rw [if_pos c2, if_pos ⟨c0, c1, c2⟩]
end Go.Proofs.YtkfgnjdchnpjeaaDoor.Pure

end
section
namespace Go.Proofs.YtkfgnjdchnpjeaaDoor.Pure
open Go Go.RowKit Go.Proofs.YtkfgnjdchnpjeaaDoor Go.Proofs.YtkfgnjdchnpjeaaDoor.QD Go.Proofs.YtkfgnjdchnpjeaaDoorW.PrintWords
set_option linter.unusedVariables false
set_option linter.unusedSimpArgs false

theorem live_some : corebanklaw19_live.f = some true := rfl
end Go.Proofs.YtkfgnjdchnpjeaaDoor.Pure

end
