/- MsgLawS: what the law MessageOrders asks of it. -/
import Derived.Test.YthmlibimhdeocaaDoorOrMsgLawR
import Derived.Test.YthmlibimhdeocaaDoorOrQDx10
import Derived.Test.YthmlibimhdeocaaDoorOrQDx13
namespace Go.Proofs.YthmlibimhdeocaaDoor.Pure
open Go Go.RowKit Go.Proofs.YthmlibimhdeocaaDoor Go.Proofs.YthmlibimhdeocaaDoor.QD Go.Proofs.YthmlibimhdeocaaDoorW.PrintWords
set_option linter.unusedVariables false
set_option linter.unusedSimpArgs false

theorem sameB_l0 (l : List S23) (hl : l.length ≤ 281474976710656) : ∀ (d k i : Nat), l.length - i = d → i ≤ l.length → d + 1 ≤ k → corebankref43_SameAll.l0 k l l (i : Int) = some true
  | d, 0, i, _, _, hk => by omega
  | d, k + 1, i, hd, hi, hk => by
    simp only [corebankref43_SameAll.l0]
    by_cases h : i < l.length
    · rw [if_pos (by omega), if_pos (by omega), if_pos (by omega), if_neg (by simp), w64s i (by omega)]
      exact sameB_l0 l hl (d - 1) k (i + 1) (by omega) (by omega) (by omega)
    · rw [if_neg (by omega)]
theorem sameB_ev (l : List S23) (hl : l.length ≤ 281474976710656) (k : Nat) (hk : l.length + 1 ≤ k) : corebankref43_SameAll.f k l l = some true := by
  unfold corebankref43_SameAll.f
  rw [if_pos rfl]
  exact sameB_l0 l hl l.length k 0 (by omega) (by omega) hk
theorem bl_trans : ∀ x y z : List UInt8, Op.bytesLess x y = true → Op.bytesLess y z = true → Op.bytesLess x z = true
  | x, [], z, h1, _ => by cases x <;> simp [Op.bytesLess] at h1
  | x, b :: y, [], _, h2 => by simp [Op.bytesLess] at h2
  | [], b :: y, c :: z, _, _ => rfl
  | a :: x, b :: y, c :: z, h1, h2 => by
    simp only [Op.bytesLess, Bool.or_eq_true, decide_eq_true_iff, Bool.and_eq_true, beq_iff_eq] at h1 h2 ⊢
    rcases h1 with h1 | ⟨rfl, h1⟩
    · rcases h2 with h2 | ⟨rfl, h2⟩
      · left
        rw [UInt8.lt_iff_toNat_lt] at *
        omega
      · exact .inl h1
    · rcases h2 with h2 | ⟨rfl, h2⟩
      · exact .inl h2
      · exact .inr ⟨rfl, bl_trans x y z h1 h2⟩
theorem bl_irrefl (x : List UInt8) : ¬ Op.bytesLess x x = true := fun h => by
  have := bytesLess_tri x x
  rw [h] at this
  simp at this
/-- a's place is ahead of b's. -/
def ltM (a b : S23) : Prop := cmpM b a > 0
theorem ltM_iff (a b : S23) : ltM a b ↔ Op.bytesLess a.f0.toList b.f0.toList = true ∨ (a.f0 = b.f0 ∧ a.f1 < b.f1) := cmpM_pos b a
theorem ltM_irrefl (a : S23) : ¬ ltM a a := fun h => by
  rcases (ltM_iff a a).1 h with h | h
  · exact bl_irrefl _ h
  · omega
theorem ltM_trans {a b c : S23} (h1 : ltM a b) (h2 : ltM b c) : ltM a c := by
  rw [ltM_iff] at *
  rcases h1 with h1 | ⟨e1, h1⟩
  · rcases h2 with h2 | ⟨e2, h2⟩
    · exact .inl (bl_trans _ _ _ h1 h2)
    · rw [← e2]; exact .inl h1
  · rcases h2 with h2 | ⟨e2, h2⟩
    · rw [e1]; exact .inl h2
    · exact .inr ⟨e1.trans e2, by omega⟩
theorem ltM_tri {a b : S23} (h : cmpM a b ≠ 0) (h2 : ¬ ltM b a) : ltM a b := by
  rw [ltM_iff] at *
  have ht := bytesLess_tri a.f0.toList b.f0.toList
  by_cases h3 : Op.bytesLess a.f0.toList b.f0.toList = true
  · exact .inl h3
  · right
    have h4 : ¬ Op.bytesLess b.f0.toList a.f0.toList = true := fun h5 => h2 (.inl h5)
    simp only [Bool.not_eq_true] at h3 h4
    rw [h3, h4, Bool.false_or] at ht
    have e : a.f0.toList = b.f0.toList := by
      by_cases h5 : a.f0.toList = b.f0.toList
      · exact h5
      · rw [beq_eq_false_iff_ne.2 h5] at ht
        cases ht
    have e' := list_inj e
    refine ⟨e', ?_⟩
    have hne : ¬ a.f1 = b.f1 := fun h5 => h ((cmpM_zero a b).2 ⟨e', h5⟩)
    have hnl : ¬ b.f1 < a.f1 := fun h5 => h2 (.inr ⟨e'.symm, h5⟩)
    omega
theorem cmpM_symm {a b : S23} (h : cmpM a b ≠ 0) : cmpM b a ≠ 0 := fun h2 => by
  have := (cmpM_zero b a).1 h2
  exact h ((cmpM_zero a b).2 ⟨this.1.symm, this.2.symm⟩)
/-- A message put in its place. -/
def insM (m : S23) : List S23 → List S23
  | [] => [m]
  | y :: r => if cmpM y m > 0 then m :: y :: r else y :: insM m r
theorem newM_ins (m : S23) : ∀ (l p : List S23), newM (p ++ l) m (Lib.idxByFrom (fun _ y => decide (cmpM y m > 0)) default l p.length) = (p ++ insM m l, true, 0)
  | [], p => by
    rw [idx_nil]
    unfold newM insM
    rw [if_pos (by omega), List.append_nil, List.take_length, List.drop_length]
  | y :: r, p => by
    rw [idx_cons]
    unfold insM
    by_cases h : cmpM y m > 0
    · rw [if_pos (decide_eq_true h), if_pos h]
      unfold newM
      rw [if_neg (by omega), Int.toNat_natCast, List.take_left, List.drop_left]
    · rw [if_neg (by simpa using h), if_neg h]
      have ih := newM_ins m r (p ++ [y])
      rw [List.length_append, List.length_singleton, List.append_assoc, List.append_assoc] at ih
      exact ih
theorem ins_mem {m x : S23} : ∀ {l : List S23}, x ∈ insM m l ↔ x = m ∨ x ∈ l
  | [] => by simp [insM]
  | y :: r => by
    unfold insM
    split
    · simp
    · rw [List.mem_cons, ins_mem, List.mem_cons]
      constructor
      · rintro (h | h | h)
        · exact .inr (.inl h)
        · exact .inl h
        · exact .inr (.inr h)
      · rintro (h | h | h)
        · exact .inr (.inl h)
        · exact .inl h
        · exact .inr (.inr h)
theorem ins_len (m : S23) : ∀ l : List S23, (insM m l).length = l.length + 1
  | [] => rfl
  | y :: r => by
    unfold insM
    split
    · rfl
    · rw [List.length_cons, ins_len m r, List.length_cons]
theorem ins_sorted {m : S23} : ∀ {l : List S23}, l.Pairwise ltM → (∀ y ∈ l, cmpM y m ≠ 0) → (insM m l).Pairwise ltM
  | [], _, _ => by simp [insM]
  | y :: r, h, hn => by
    obtain ⟨h1, h2⟩ := List.pairwise_cons.1 h
    unfold insM
    split
    · next hc =>
      refine List.pairwise_cons.2 ⟨fun z hz => ?_, h⟩
      rcases List.mem_cons.1 hz with rfl | hz
      · exact hc
      · exact ltM_trans (show ltM m y from hc) (h1 z hz)
    · next hc =>
      refine List.pairwise_cons.2 ⟨fun z hz => ?_, ins_sorted h2 (fun z hz => hn z (List.mem_cons_of_mem _ hz))⟩
      rcases ins_mem.1 hz with rfl | hz
      · exact ltM_tri (hn y List.mem_cons_self) hc
      · exact h1 z hz
theorem sorted_unique : ∀ {a b : List S23}, a.Pairwise ltM → b.Pairwise ltM → (∀ x, x ∈ a ↔ x ∈ b) → a = b
  | [], b, _, _, h => by
    cases b with
    | nil => rfl
    | cons y s => exact absurd ((h y).2 List.mem_cons_self) (by simp)
  | x :: r, [], _, _, h => absurd ((h x).1 List.mem_cons_self) (by simp)
  | x :: r, y :: s, ha, hb, h => by
    obtain ⟨a1, a2⟩ := List.pairwise_cons.1 ha
    obtain ⟨b1, b2⟩ := List.pairwise_cons.1 hb
    have e : x = y := by
      rcases List.mem_cons.1 ((h x).1 List.mem_cons_self) with h1 | h1
      · exact h1
      · rcases List.mem_cons.1 ((h y).2 List.mem_cons_self) with h2 | h2
        · exact h2.symm
        · exact absurd (ltM_trans (b1 x h1) (a1 y h2)) (ltM_irrefl y)
    subst e
    congr 1
    refine sorted_unique a2 b2 (fun z => ⟨fun hz => ?_, fun hz => ?_⟩)
    · rcases List.mem_cons.1 ((h z).1 (List.mem_cons_of_mem _ hz)) with h1 | h1
      · subst h1; exact absurd (a1 z hz) (ltM_irrefl z)
      · exact h1
    · rcases List.mem_cons.1 ((h z).2 (List.mem_cons_of_mem _ hz)) with h1 | h1
      · subst h1; exact absurd (b1 z hz) (ltM_irrefl z)
      · exact h1
theorem idx_none {α : Type} (p : α → α → Bool) (d : α) : ∀ (l : List α) (i : Nat), (∀ y ∈ l, ¬ p d y = true) → Lib.idxByFrom p d l i = -1
  | [], i, _ => idx_nil p d i
  | y :: r, i, h => by
    rw [idx_cons, if_neg (h y List.mem_cons_self)]
    exact idx_none p d r (i + 1) (fun z hz => h z (List.mem_cons_of_mem _ hz))
/-- No message with this place is there: it is put in its place. -/
theorem recvM_new {l : List S23} {m : S23} (hl : l.length < 4096) (hn : ∀ y ∈ l, cmpM y m ≠ 0) : recvM l m = (insM m l, true, 0) := by
  rw [recvM_eq]
  have h1 : Lib.idxBy (fun _ y => decide (cmpM y m = 0)) l default = -1 := idx_none _ _ l 0 (fun y hy => by simpa using hn y hy)
  rw [h1, if_neg (by omega), if_neg (by omega)]
  have := newM_ins m l []
  rw [List.nil_append, List.nil_append, List.length_nil] at this
  exact this
/-- A message received; errors change nothing. -/
def stepM (l : List S23) (m : S23) : List S23 := if chkM m = 0 then (if (recvM l m).2.2 = 0 then (recvM l m).1 else l) else l
theorem step_len (l : List S23) (m : S23) : (stepM l m).length ≤ l.length + 1 := by
  unfold stepM
  split
  · split
    · exact recv_len l m
    · omega
  · omega
theorem received_l0 (more : List S23) (hm : more.length ≤ 60) (hf : ∀ m ∈ more, m.f0.size ≤ 1000 ∧ m.f6.size ≤ 1000) : ∀ (d k i : Nat) (l : List S23), more.length - i = d → i ≤ more.length → l.length ≤ 900000 + i → d + 1 ≤ k →
    corebanklaw43_received.l0 k l more (i : Int) = some ((more.drop i).foldl stepM l)
  | d, 0, i, l, _, _, _, hk => by omega
  | d, k + 1, i, l, hd, hi, hl, hk => by
    simp only [corebanklaw43_received.l0]
    by_cases h : i < more.length
    · have hmem := rd_mem more i h
      obtain ⟨h0, h6⟩ := hf _ hmem
      rw [if_pos (by omega), if_pos (by omega), recv_eq l (rd_T23 more (i : Int)) (by omega) (by omega) (by omega), Option.bind_some, drop_rd more i h, List.foldl_cons, w64s i (by omega)]
      have hs := step_len l (rd_T23 more (i : Int))
      have ih := fun l' hl' => received_l0 more hm hf (d - 1) k (i + 1) l' (by omega) (by omega) hl' (by omega)
      generalize rd_T23 more (i : Int) = m at hs ⊢
      unfold stepM at hs ⊢
      by_cases hc : chkM m = 0
      · rw [if_pos hc] at hs
        rw [if_pos hc, if_pos hc]
        by_cases he : (recvM l m).2.2 = 0
        · rw [if_pos he] at hs
          rw [if_pos he, if_pos he]
          exact ih _ (by omega)
        · rw [if_neg he, if_neg he]
          exact ih _ (by omega)
      · rw [if_neg hc, if_neg hc]
        rw [if_neg (by exact hc)]
        exact ih _ (by omega)
    · rw [if_neg (by omega), List.drop_eq_nil_of_le (by omega)]
      rfl
theorem received_ev (l more : List S23) (hl : l.length ≤ 900000) (hm : more.length ≤ 60) (hf : ∀ m ∈ more, m.f0.size ≤ 1000 ∧ m.f6.size ≤ 1000) (k : Nat) (hk : more.length + 1 ≤ k) : corebanklaw43_received.f k l more = some (more.foldl stepM l) := by
  have := received_l0 more hm hf more.length k 0 l rfl (by omega) (by omega) hk
  rw [List.drop_zero] at this
  exact this
theorem fold_len : ∀ (more l : List S23), (more.foldl stepM l).length ≤ l.length + more.length
  | [], l => by simp
  | m :: r, l => by
    rw [List.foldl_cons]
    have := fold_len r (stepM l m)
    have := step_len l m
    simp only [List.length_cons]
    omega
end Go.Proofs.YthmlibimhdeocaaDoor.Pure

