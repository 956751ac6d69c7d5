/- Keyed, EntCmp: what the law EntryCodes asks of it. -/
import Derived.Test.YtkfgnjdchnpjeaaDoorEoWWords
import Derived.Test.YtkfgnjdchnpjeaaDoorEoQBx1
import Derived.Test.YtkfgnjdchnpjeaaDoorEoWirA
import Derived.Test.YtkfgnjdchnpjeaaDoorEoRowY
section
namespace Go.Proofs.YtkfgnjdchnpjeaaDoor
set_option linter.unusedVariables false
set_option linter.unusedSimpArgs false

/-- An order by keys: cf compares an element with a key. -/
structure KeyOrd {α κ : Type} (cf : α → κ → Int) (key : α → κ) (mk : κ → Int → α) (put : α → Int → α) : Prop where
  trans : ∀ a b k, cf a (key b) < 0 → cf b k < 0 → cf a k < 0
  pos : ∀ a k v, 0 < cf a k → cf (mk k v) (key a) < 0
  key_mk : ∀ k v, key (mk k v) = k
  cf_put : ∀ a v k, cf (put a v) k = cf a k
  key_put : ∀ a v, key (put a v) = key a
  put_mk : ∀ k v u, put (mk k v) u = mk k u
section
variable {α κ : Type} {cf : α → κ → Int} {key : α → κ} {mk : κ → Int → α} {put : α → Int → α}

/-- In order of the keys, each once. -/
def sortedK (cf : α → κ → Int) (key : α → κ) (l : List α) : Prop := l.Pairwise fun a b => cf a (key b) < 0
/-- v is what a new element gets; w what one gets that is there. -/
def addR (cf : α → κ → Int) (mk : κ → Int → α) (put : α → Int → α) (k : κ) (v : Int) (w : α → Int) : List α → List α
  | [] => [mk k v]
  | y :: r => if cf y k < 0 then y :: addR cf mk put k v w r else if cf y k = 0 then put y (w y) :: r else mk k v :: y :: r
theorem cnt_zero (O : KeyOrd cf key mk put) {k : κ} {y : α} {r : List α} (h : sortedK cf key (y :: r)) (hy : ¬ cf y k < 0) : ((y :: r).countP fun x => decide (cf x k < 0)) = 0 := by
  obtain ⟨h1, -⟩ := List.pairwise_cons.1 h
  rw [List.countP_eq_zero]
  intro x hx
  rcases List.mem_cons.1 hx with rfl | hx
  · simpa using hy
  · intro h2
    exact hy (O.trans y x k (h1 x hx) (by simpa using h2))
theorem addR_eq (O : KeyOrd cf key mk put) (d : α) (k : κ) (v : Int) (w : α → Int) : ∀ (l : List α), sortedK cf key l →
    addR cf mk put k v w l = if (decide ((l.countP fun x => decide (cf x k < 0)) < l.length) && decide (cf (l.getD (l.countP fun x => decide (cf x k < 0)) d) k = 0)) = true
      then l.set (l.countP fun x => decide (cf x k < 0)) (put (l.getD (l.countP fun x => decide (cf x k < 0)) d) (w (l.getD (l.countP fun x => decide (cf x k < 0)) d)))
      else l.take (l.countP fun x => decide (cf x k < 0)) ++ mk k v :: l.drop (l.countP fun x => decide (cf x k < 0))
  | [], _ => by simp [addR]
  | y :: r, h => by
    obtain ⟨h1, h2⟩ := List.pairwise_cons.1 h
    unfold addR
    by_cases hy : cf y k < 0
    · rw [if_pos hy, List.countP_cons_of_pos (by simpa using hy), addR_eq O d k v w r h2]
      generalize (r.countP fun x => decide (cf x k < 0)) = n
      have e1 : (y :: r).getD (n + 1) d = r.getD n d := by simp [List.getD_eq_getElem?_getD]
      rw [e1, List.length_cons]
      by_cases hc : (decide (n < r.length) && decide (cf (r.getD n d) k = 0)) = true
      · rw [if_pos hc, if_pos (by simpa using hc)]
        rfl
      · rw [if_neg hc, if_neg (by simpa using hc)]
        rfl
    · rw [if_neg hy, cnt_zero O h hy]
      have e1 : (y :: r).getD 0 d = y := by simp [List.getD_eq_getElem?_getD]
      rw [e1]
      by_cases hz : cf y k = 0
      · rw [if_pos hz, if_pos (by simp [hz])]
        rfl
      · rw [if_neg hz, if_neg (by simp [hz])]
        rfl
theorem addR_all (k : κ) (v : Int) (w : α → Int) : ∀ (l : List α) (x : α), x ∈ addR cf mk put k v w l → x = mk k v ∨ x ∈ l ∨ ∃ y ∈ l, x = put y (w y)
  | [], x, h => .inl (by simpa [addR] using h)
  | y :: r, x, h => by
    unfold addR at h
    split at h
    · rcases List.mem_cons.1 h with rfl | h
      · exact .inr (.inl List.mem_cons_self)
      · rcases addR_all k v w r x h with h | h | ⟨z, hz, h⟩
        · exact .inl h
        · exact .inr (.inl (List.mem_cons_of_mem _ h))
        · exact .inr (.inr ⟨z, List.mem_cons_of_mem _ hz, h⟩)
    · split at h
      · rcases List.mem_cons.1 h with rfl | h
        · exact .inr (.inr ⟨y, List.mem_cons_self, rfl⟩)
        · exact .inr (.inl (List.mem_cons_of_mem _ h))
      · rcases List.mem_cons.1 h with rfl | h
        · exact .inl rfl
        · exact .inr (.inl h)
theorem addR_sorted (O : KeyOrd cf key mk put) (k : κ) (v : Int) (w : α → Int) : ∀ (l : List α), sortedK cf key l → sortedK cf key (addR cf mk put k v w l)
  | [], _ => by simp [addR, sortedK]
  | y :: r, h => by
    obtain ⟨h1, h2⟩ := List.pairwise_cons.1 h
    unfold addR
    split
    · next hy =>
      refine List.pairwise_cons.2 ⟨fun z hz => ?_, addR_sorted O k v w r h2⟩
      rcases addR_all k v w r z hz with rfl | hz | ⟨u, hu, rfl⟩
      · rw [O.key_mk]; exact hy
      · exact h1 z hz
      · rw [O.key_put]; exact h1 u hu
    · next hy =>
      split
      · refine List.pairwise_cons.2 ⟨fun z hz => ?_, h2⟩
        rw [O.cf_put]; exact h1 z hz
      · next hz0 =>
        have hp := O.pos y k v (by omega)
        refine List.pairwise_cons.2 ⟨fun z hz => ?_, h⟩
        rcases List.mem_cons.1 hz with rfl | hz
        · exact hp
        · exact O.trans _ y _ hp (h1 z hz)
theorem addR_len (k : κ) (v : Int) (w : α → Int) : ∀ l : List α, (addR cf mk put k v w l).length ≤ l.length + 1
  | [] => by simp [addR]
  | y :: r => by
    unfold addR
    split
    · have := addR_len k v w r
      simp only [List.length_cons]
      omega
    · split <;> simp
/-- What precedes a key stands ahead of what does not. -/
theorem sorted_mono (O : KeyOrd cf key mk put) (d : α) (k : κ) {l : List α} (h : sortedK cf key l) (a b : Nat) (hab : a ≤ b) (hb : b < l.length) (hlt : cf (l.getD b d) k < 0) : cf (l.getD a d) k < 0 := by
  by_cases e : a = b
  · rw [e]; exact hlt
  · have := List.pairwise_iff_getElem.1 h a b (by omega) hb (by omega)
    rw [List.getD_eq_getElem?_getD, List.getElem?_eq_getElem hb] at hlt
    rw [List.getD_eq_getElem?_getD, List.getElem?_eq_getElem (by omega)]
    exact O.trans _ _ _ this hlt
end
end Go.Proofs.YtkfgnjdchnpjeaaDoor

end
section
namespace Go.Proofs.YtkfgnjdchnpjeaaDoor
open Go Go.RowKit Go.Proofs.YtkfgnjdchnpjeaaDoor.QD Go.Proofs.YtkfgnjdchnpjeaaDoorW.PrintWords
set_option linter.unusedVariables false
set_option linter.unusedSimpArgs false

def cmpT (a b : ByteArray) : Int := if Op.bytesLess a.toList b.toList = true then -1 else if Op.bytesLess b.toList a.toList = true then 1 else 0
def cmpI (a b : Int) : Int := if a < b then -1 else if a > b then 1 else 0
theorem cmpT_f (a b : ByteArray) : QB.cmp_Compare_string.f a b = some (cmpT a b) := by
  unfold QB.cmp_Compare_string.f QB.cmp_isNaN_string.f cmpT
  simp only [bne_self_eq_false, Option.bind_some]
  rw [if_neg (by simp), if_neg (by simp)]
  split
  · rfl
  · split <;> rfl
theorem cmpI_f (a b : Int) : QB.cmp_Compare_int.f a b = some (cmpI a b) := by
  unfold QB.cmp_Compare_int.f QB.cmp_isNaN_int.f cmpI
  simp only [bne_self_eq_false, Option.bind_some]
  rw [if_neg (by simp), if_neg (by simp)]
  split
  · rfl
  · split <;> rfl
/-- A leg against a key. -/
def cmpL (x : S46) (k : Int × ByteArray) : Int := if cmpI x.f0 k.1 = 0 then cmpT x.f2 k.2 else cmpI x.f0 k.1
theorem cmpL_f (x t : S46) : QB.entry_compare.f 4 x.f0 x.f1 x.f2 t.f0 t.f1 t.f2 = some (cmpL x (t.f0, t.f2)) := by
  unfold QB.entry_compare.f cmpL
  rw [cmpI_f, Option.bind_some, cmpT_f, Option.bind_some]
  generalize cmpI x.f0 t.f0 = a
  generalize cmpT x.f2 t.f2 = b
  have w1 : wrap64 1 = 1 := by unfold wrap64; omega
  have w2 : wrap64 2 = 2 := by unfold wrap64; omega
  have r0 : ∀ a b : Int, rd [a, b] 0 = a := fun _ _ => rfl
  have r1 : ∀ a b : Int, rd [a, b] 1 = b := fun _ _ => rfl
  unfold QB.cmp_Or_int.f
  by_cases ha : a = 0
  · by_cases hb : b = 0
    · simp [QB.cmp_Or_int.l0, r0, r1, ha, hb, w1, w2]
    · simp [QB.cmp_Or_int.l0, r0, r1, ha, hb, w1, w2]
  · simp [QB.cmp_Or_int.l0, r0, r1, ha, w1, w2]
theorem cmpT_neg (a b : ByteArray) : cmpT a b < 0 ↔ Op.bytesLess a.toList b.toList = true := by
  unfold cmpT
  by_cases h1 : Op.bytesLess a.toList b.toList = true
  · rw [if_pos h1]; exact ⟨fun _ => h1, fun _ => by omega⟩
  · rw [if_neg h1]
    constructor
    · intro h2
      split at h2 <;> omega
    · intro h2; exact absurd h2 h1
theorem cmpT_pos (a b : ByteArray) : 0 < cmpT a b ↔ Op.bytesLess b.toList a.toList = true := by
  have h := bytesLess_tri a.toList b.toList
  unfold cmpT
  by_cases h1 : Op.bytesLess a.toList b.toList = true
  · rw [if_pos h1]
    rw [h1, Bool.true_or] at h
    rw [h]
    constructor
    · intro h2; omega
    · intro h2; cases h2
  · rw [if_neg h1]
    by_cases h2 : Op.bytesLess b.toList a.toList = true
    · rw [if_pos h2]; exact ⟨fun _ => h2, fun _ => by omega⟩
    · rw [if_neg h2]; exact ⟨fun h3 => by omega, fun h3 => absurd h3 h2⟩
theorem bl_trans : ∀ x y z : List UInt8, Op.bytesLess x y = true → Op.bytesLess y z = true → Op.bytesLess x z = true
  | x, [], z, h1, _ => by cases x <;> simp [Op.bytesLess] at h1
  | x, b :: y, [], _, h2 => by simp [Op.bytesLess] at h2
  | [], b :: y, c :: z, _, _ => rfl
  | a :: x, b :: y, c :: z, h1, h2 => by
    simp only [Op.bytesLess, Bool.or_eq_true, decide_eq_true_iff, Bool.and_eq_true, beq_iff_eq] at h1 h2 ⊢
    rcases h1 with h1 | ⟨rfl, h1⟩
    · rcases h2 with h2 | ⟨rfl, h2⟩
      · left
        rw [UInt8.lt_iff_toNat_lt] at *
        omega
      · exact .inl h1
    · rcases h2 with h2 | ⟨rfl, h2⟩
      · exact .inl h2
      · exact .inr ⟨rfl, bl_trans x y z h1 h2⟩
def cfY (y : S44) (s : ByteArray) : Int := cmpT y.f0 s
def mkY (s : ByteArray) (v : Int) : S44 := ⟨s, v⟩
theorem ordY : KeyOrd cfY (fun y => y.f0) mkY put1Y where
  trans a b k h1 h2 := (cmpT_neg _ _).2 (bl_trans _ _ _ ((cmpT_neg _ _).1 h1) ((cmpT_neg _ _).1 h2))
  pos a k v h := (cmpT_neg _ _).2 ((cmpT_pos _ _).1 h)
  key_mk k v := rfl
  cf_put a v k := rfl
  key_put a v := rfl
  put_mk k v u := rfl
theorem cmpI_neg (a b : Int) : cmpI a b < 0 ↔ a < b := by unfold cmpI; split <;> (try split) <;> omega
theorem cmpI_pos (a b : Int) : 0 < cmpI a b ↔ b < a := by unfold cmpI; split <;> (try split) <;> omega
theorem cmpI_zero (a b : Int) : cmpI a b = 0 ↔ a = b := by unfold cmpI; split <;> (try split) <;> omega
theorem cmpL_neg (x : S46) (k : Int × ByteArray) : cmpL x k < 0 ↔ x.f0 < k.1 ∨ (x.f0 = k.1 ∧ cmpT x.f2 k.2 < 0) := by
  have h1 := cmpI_neg x.f0 k.1
  have h2 := cmpI_zero x.f0 k.1
  unfold cmpL
  split <;> omega
theorem cmpL_pos (x : S46) (k : Int × ByteArray) : 0 < cmpL x k ↔ k.1 < x.f0 ∨ (x.f0 = k.1 ∧ 0 < cmpT x.f2 k.2) := by
  have h1 := cmpI_pos x.f0 k.1
  have h2 := cmpI_zero x.f0 k.1
  unfold cmpL
  split <;> omega
def keyL (x : S46) : Int × ByteArray := (x.f0, x.f2)
def mkL (k : Int × ByteArray) (v : Int) : S46 := ⟨k.1, v, k.2⟩
theorem ordL : KeyOrd cmpL keyL mkL put1L where
  trans a b k h1 h2 := by
    rw [cmpL_neg] at *
    have e : keyL b = (b.f0, b.f2) := rfl
    rw [e] at h1
    rcases h1 with h1 | ⟨e1, h1⟩
    · rcases h2 with h2 | ⟨e2, h2⟩
      · left; simp only at h1; omega
      · left; simp only at h1; omega
    · rcases h2 with h2 | ⟨e2, h2⟩
      · left; simp only at e1; omega
      · right
        exact ⟨by simp only at e1; omega, (cmpT_neg _ _).2 (bl_trans _ _ _ ((cmpT_neg _ _).1 h1) ((cmpT_neg _ _).1 h2))⟩
  pos a k v h := by
    rw [cmpL_pos] at h
    rw [cmpL_neg]
    rcases h with h | ⟨e, h⟩
    · exact .inl h
    · exact .inr ⟨e.symm, (cmpT_neg _ _).2 ((cmpT_pos _ _).1 h)⟩
  key_mk k v := rfl
  cf_put a v k := rfl
  key_put a v := rfl
  put_mk k v u := rfl
end Go.Proofs.YtkfgnjdchnpjeaaDoor

end
