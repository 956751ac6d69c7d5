/- MsgLawC: what the law MessageOnce asks of it. -/
import Derived.Test.YthmlibimhdeocaaDoorOnMsgLawB
import Derived.Test.YthmlibimhdeocaaDoorOnQDx0
namespace Go.Proofs.YthmlibimhdeocaaDoor.Pure
open Go.RowKit Go.Proofs.YthmlibimhdeocaaDoor Go.Proofs.YthmlibimhdeocaaDoor.QD Go.Proofs.YthmlibimhdeocaaDoorW.PrintWords
set_option linter.unusedVariables false
set_option linter.unusedSimpArgs false

def lettr (c : UInt8) : Bool := decide (97 ≤ c.toNat) && decide (c.toNat ≤ 122)
def nxtr (c : UInt8) : Bool := decide (c.toNat = 95) || (decide (48 ≤ c.toNat) && decide (c.toNat ≤ 57))
/-- Signs of a name; the first one is a letter, if asked. -/
def okN (first : Bool) : List UInt8 → Bool
  | [] => true
  | c :: r => (lettr c || (!first && nxtr c)) && okN false r
theorem okN_cons (first : Bool) (c : UInt8) (r : List UInt8) : okN first (c :: r) = ((lettr c || (!first && nxtr c)) && okN false r) := by rw [okN]
theorem okN_nil (first : Bool) : okN first [] = true := by rw [okN]
def nameB (x : ByteArray) : Bool := okN true x.data.toList && (decide (1 ≤ x.size) && decide (x.size ≤ 16))
def textB (x : ByteArray) : Bool := (x.data.toList.all fun c => decide (32 ≤ c.toNat) && decide (c.toNat ≤ 126)) && decide (x.size ≤ 64)
theorem name_l0 (x : ByteArray) (hx : x.size ≤ 100000) : ∀ (d k i : Nat), x.size - i = d → i ≤ x.size → d + 1 ≤ k →
    QB.message_name.l0 k x (x.size : Int) (i : Int) = some (okN (decide (i = 0)) (x.data.toList.drop i) && (decide (1 ≤ x.size) && decide (x.size ≤ 16)))
  | d, 0, i, _, _, hk => by omega
  | d, k + 1, i, hd, hi, hk => by
    simp only [QB.message_name.l0]
    by_cases h : i < x.size
    · obtain ⟨c, hc, hb, hc2⟩ := bt_drop x i h
      rw [if_pos (by omega), if_pos (by omega), if_pos (by omega), hb, hc, w64s i (by omega)]
      have ih := name_l0 x hx (d - 1) k (i + 1) (by omega) (by omega) (by omega)
      rw [decide_eq_false (by omega : ¬ i + 1 = 0)] at ih
      rw [ih, okN_cons]
      have e1 : lettr c = (decide (97 ≤ c.toNat) && decide (c.toNat ≤ 122)) := rfl
      have e2 : nxtr c = (decide (c.toNat = 95) || (decide (48 ≤ c.toNat) && decide (c.toNat ≤ 57))) := rfl
      rw [e1, e2]
      by_cases h1 : (97 : Nat) ≤ c.toNat
      · by_cases h2 : c.toNat ≤ 122
        · rw [if_pos (by omega), if_pos (by omega), decide_eq_true h1, decide_eq_true h2]
          simp
        · rw [if_pos (by omega), if_neg (by omega), decide_eq_true h1, decide_eq_false h2, decide_eq_false (by omega : ¬ c.toNat = 95), decide_eq_false (by omega : ¬ c.toNat ≤ 57)]
          by_cases h0 : i = 0
          · rw [if_pos (by omega)]
            simp
          · rw [if_neg (by omega), if_neg (by omega), if_neg (by omega), if_pos (by omega)]
            simp
      · rw [if_neg (by omega), decide_eq_false h1]
        by_cases h0 : i = 0
        · rw [if_pos (by omega), decide_eq_true h0]
          simp
        · rw [if_neg (by omega), decide_eq_false h0]
          by_cases h3 : c.toNat = 95
          · rw [if_pos (by omega), decide_eq_true h3]
            simp
          · rw [if_neg (by omega), decide_eq_false h3]
            by_cases h4 : (48 : Nat) ≤ c.toNat
            · by_cases h5 : c.toNat ≤ 57
              · rw [if_neg (by omega), if_neg (by omega), decide_eq_true h4, decide_eq_true h5]
                simp
              · rw [if_neg (by omega), if_pos (by omega), decide_eq_true h4, decide_eq_false h5]
                simp
            · rw [if_pos (by omega), decide_eq_false h4]
              simp
    · rw [if_neg (by omega), List.drop_eq_nil_of_le (by rw [Array.length_toList]; exact Nat.le_of_not_lt h), okN_nil, Bool.true_and]
      by_cases h1 : 1 ≤ x.size
      · rw [if_pos (by omega), decide_eq_true h1, Bool.true_and]
        congr 1
        by_cases h2 : x.size ≤ 16
        · rw [decide_eq_true h2, decide_eq_true (by omega)]
        · rw [decide_eq_false h2, decide_eq_false (by omega)]
      · rw [if_neg (by omega), decide_eq_false h1, Bool.false_and]
theorem name_ev (x : ByteArray) (hx : x.size ≤ 100000) (k : Nat) (hk : x.size + 1 ≤ k) : QB.message_name.f k x = some (nameB x) := by
  have := name_l0 x hx x.size k 0 rfl (by omega) hk
  rw [List.drop_zero] at this
  exact this
theorem text_l0 (x : ByteArray) (hx : x.size ≤ 100000) : ∀ (d k i : Nat), x.size - i = d → i ≤ x.size → d + 1 ≤ k →
    QB.message_text.l0 k x (x.size : Int) (i : Int) = some (((x.data.toList.drop i).all fun c => decide (32 ≤ c.toNat) && decide (c.toNat ≤ 126)) && decide (x.size ≤ 64))
  | d, 0, i, _, _, hk => by omega
  | d, k + 1, i, hd, hi, hk => by
    simp only [QB.message_text.l0]
    by_cases h : i < x.size
    · obtain ⟨c, hc, hb, hc2⟩ := bt_drop x i h
      rw [if_pos (by omega), if_pos (by omega), if_pos (by omega), hb, hc, w64s i (by omega), text_l0 x hx (d - 1) k (i + 1) (by omega) (by omega) (by omega), List.all_cons]
      by_cases h1 : (32 : Nat) ≤ c.toNat
      · by_cases h2 : c.toNat ≤ 126
        · rw [if_neg (by omega), if_neg (by omega), decide_eq_true h1, decide_eq_true h2]
          simp
        · rw [if_neg (by omega), if_pos (by omega), decide_eq_true h1, decide_eq_false h2]
          simp
      · rw [if_pos (by omega), decide_eq_false h1]
        simp
    · rw [if_neg (by omega), List.drop_eq_nil_of_le (by rw [Array.length_toList]; exact Nat.le_of_not_lt h), List.all_nil, Bool.true_and]
      congr 1
      by_cases h2 : x.size ≤ 64
      · rw [decide_eq_true h2, decide_eq_true (by omega)]
      · rw [decide_eq_false h2, decide_eq_false (by omega)]
theorem text_ev (x : ByteArray) (hx : x.size ≤ 100000) (k : Nat) (hk : x.size + 1 ≤ k) : QB.message_text.f k x = some (textB x) := by
  have := text_l0 x hx x.size k 0 rfl (by omega) hk
  rw [List.drop_zero] at this
  exact this
/-- What is answered. -/
def chkM (m : S23) : Int :=
  if nameB m.f0 = true then (if 1 ≤ m.f1 ∧ m.f1 ≤ 1000000000 ∧ 1 ≤ m.f2 ∧ m.f2 ≤ 3 ∧ 1000 ≤ m.f3 ∧ 1 ≤ m.f4 ∧ m.f4 ≤ 1000000000000 ∧ 0 ≤ m.f5 ∧ m.f5 ≤ 73048 ∧ textB m.f6 = true then 0 else 1) else 4
theorem check_eq (m : S23) (h0 : m.f0.size ≤ 4000) (h6 : m.f6.size ≤ 4000) : QB.message_Check.f 5000 m.f0 m.f1 m.f2 m.f3 m.f4 m.f5 m.f6 = some (chkM m) := by
  unfold QB.message_Check.f chkM
  rw [name_ev m.f0 (by omega) 5000 (by omega), Option.bind_some]
  have j : ∀ b, QB.message_Check.j0 5000 b m.f0 m.f1 m.f2 m.f3 m.f4 m.f5 m.f6 = if b = true then some 1 else if m.f4 < 1 then some 1 else if m.f4 > 1000000000000 then some 1 else if m.f5 < 0 then some 1 else if m.f5 > 73048 then some 1 else if textB m.f6 = true then some 0 else some 1 := fun b => by
    show QB.message_Check.j0 (4999 + 1) b m.f0 m.f1 m.f2 m.f3 m.f4 m.f5 m.f6 = _
    simp only [QB.message_Check.j0]
    rw [text_ev m.f6 (by omega) 4999 (by omega)]
    rfl
  simp only [j]
  by_cases hn : nameB m.f0 = true
  · rw [if_pos hn, if_pos hn]
    by_cases hc : 1 ≤ m.f1 ∧ m.f1 ≤ 1000000000 ∧ 1 ≤ m.f2 ∧ m.f2 ≤ 3 ∧ 1000 ≤ m.f3 ∧ 1 ≤ m.f4 ∧ m.f4 ≤ 1000000000000 ∧ 0 ≤ m.f5 ∧ m.f5 ≤ 73048 ∧ textB m.f6 = true
    · rw [if_pos hc]
      obtain ⟨c1, c2, c3, c4, c5, c6, c7, c8, c9, c10⟩ := hc
      rw [if_neg (by omega), if_neg (by omega), if_neg (by omega), if_neg (by omega), if_neg (by simpa using c5), if_neg (by omega), if_neg (by omega), if_neg (by omega), if_neg (by omega), if_pos c10]
    · rw [if_neg hc]
      by_cases c1 : m.f1 < 1
      · rw [if_pos c1, if_pos trivial]
      rw [if_neg c1]
      by_cases c2 : m.f1 > 1000000000
      · rw [if_pos c2, if_pos trivial]
      rw [if_neg c2]
      by_cases c3 : m.f2 < 1
      · rw [if_pos c3, if_pos trivial]
      rw [if_neg c3]
      by_cases c4 : m.f2 > 3
      · rw [if_pos c4, if_pos trivial]
      rw [if_neg c4]
      by_cases c5 : m.f3 < 1000
      · rw [if_pos (by simpa using c5)]
      rw [if_neg (by simpa using c5)]
      by_cases c6 : m.f4 < 1
      · rw [if_pos c6]
      rw [if_neg c6]
      by_cases c7 : m.f4 > 1000000000000
      · rw [if_pos c7]
      rw [if_neg c7]
      by_cases c8 : m.f5 < 0
      · rw [if_pos c8]
      rw [if_neg c8]
      by_cases c9 : m.f5 > 73048
      · rw [if_pos c9]
      rw [if_neg c9]
      rw [if_neg (fun c10 => hc ⟨by omega, by omega, by omega, by omega, by omega, by omega, by omega, by omega, by omega, c10⟩)]
  · rw [if_neg hn, if_neg hn]
end Go.Proofs.YthmlibimhdeocaaDoor.Pure

