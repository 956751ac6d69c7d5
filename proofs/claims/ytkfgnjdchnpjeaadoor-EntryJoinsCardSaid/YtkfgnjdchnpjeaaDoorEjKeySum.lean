/- KeySum: what the law EntryJoins asks of it. -/
import Derived.Test.YtkfgnjdchnpjeaaDoorEjEntCmp
import Derived.Test.YtkfgnjdchnpjeaaDoorEjText
namespace Go.Proofs.YtkfgnjdchnpjeaaDoor
open Go Go.RowKit Go.Proofs.YtkfgnjdchnpjeaaDoorW.PrintWords
set_option linter.unusedVariables false
set_option linter.unusedSimpArgs false

theorem wrap_add (a b : Int) : wrap64 (wrap64 a + b) = wrap64 (a + b) := by unfold wrap64; omega
theorem wrap_zero : wrap64 0 = 0 := by unfold wrap64; omega
section
variable {α κ : Type} {cf : α → κ → Int} {key : α → κ} {mk : κ → Int → α} {put : α → Int → α} {val : α → Int}

theorem addR_mem (O : KeyOrd cf key mk put) (hz : ∀ a k, cf a k = 0 ↔ key a = k) (hm : ∀ k v, val (mk k v) = v) (hp : ∀ a v, val (put a v) = v) (k : κ) (v : Int) (w : α → Int) : ∀ (l : List α), sortedK cf key l →
    ∀ z ∈ addR cf mk put k v w l, (key z ≠ k ∧ z ∈ l) ∨ (key z = k ∧ ((∃ y ∈ l, key y = k ∧ val z = w y) ∨ ((∀ y ∈ l, key y ≠ k) ∧ val z = v)))
  | [], _, z, hzm => by
    simp only [addR, List.mem_singleton] at hzm
    subst hzm
    exact .inr ⟨O.key_mk k v, .inr ⟨fun y hy => absurd hy (by simp), hm k v⟩⟩
  | y :: r, hs, z, hzm => by
    obtain ⟨h1, h2⟩ := List.pairwise_cons.1 hs
    rw [addR] at hzm
    by_cases hy : cf y k < 0
    · rw [if_pos hy] at hzm
      have hyk : key y ≠ k := fun e => by have := (hz y k).2 e; omega
      rcases List.mem_cons.1 hzm with rfl | hzm
      · exact .inl ⟨hyk, List.mem_cons_self⟩
      · rcases addR_mem O hz hm hp k v w r h2 z hzm with ⟨a, b⟩ | ⟨a, ⟨x, hx, b, c⟩ | ⟨b, c⟩⟩
        · exact .inl ⟨a, List.mem_cons_of_mem _ b⟩
        · exact .inr ⟨a, .inl ⟨x, List.mem_cons_of_mem _ hx, b, c⟩⟩
        · exact .inr ⟨a, .inr ⟨fun x hx => (List.mem_cons.1 hx).elim (fun e => e ▸ hyk) (fun hx => b x hx), c⟩⟩
    · rw [if_neg hy] at hzm
      have hrest : ∀ x ∈ r, ¬ cf x k = 0 ∨ cf y k = 0 := fun x hx => by
        by_cases e : cf x k = 0
        · have hk := (hz x k).1 e
          have := h1 x hx
          rw [hk] at this
          omega
        · exact .inl e
      by_cases h0 : cf y k = 0
      · rw [if_pos h0] at hzm
        have hyk := (hz y k).1 h0
        rcases List.mem_cons.1 hzm with rfl | hzm
        · exact .inr ⟨by rw [O.key_put]; exact hyk, .inl ⟨y, List.mem_cons_self, hyk, hp _ _⟩⟩
        · refine .inl ⟨fun e => ?_, List.mem_cons_of_mem _ hzm⟩
          have := h1 z hzm
          rw [e, ← hyk] at this
          have h3 := (hz y (key y)).2 rfl
          omega
      · rw [if_neg h0] at hzm
        have hne : ∀ x ∈ y :: r, key x ≠ k := fun x hx e => by
          rcases List.mem_cons.1 hx with rfl | hx
          · exact h0 ((hz _ k).2 e)
          · rcases hrest x hx with q | q
            · exact q ((hz x k).2 e)
            · exact h0 q
        rcases List.mem_cons.1 hzm with rfl | hzm
        · exact .inr ⟨O.key_mk k v, .inr ⟨hne, hm k v⟩⟩
        · exact .inl ⟨hne z hzm, hzm⟩
theorem addR_keys (O : KeyOrd cf key mk put) (hz : ∀ a k, cf a k = 0 ↔ key a = k) (k : κ) (v : Int) (w : α → Int) (q : κ) : ∀ (l : List α),
    (∃ z ∈ addR cf mk put k v w l, key z = q) ↔ q = k ∨ ∃ y ∈ l, key y = q
  | [] => by
    simp only [addR, List.mem_singleton]
    constructor
    · rintro ⟨z, rfl, h⟩
      exact .inl (by rw [← h, O.key_mk])
    · rintro (rfl | ⟨y, hy, -⟩)
      · exact ⟨_, rfl, O.key_mk _ _⟩
      · exact absurd hy (by simp)
  | y :: r => by
    rw [addR]
    have ih := addR_keys O hz k v w q r
    by_cases hy : cf y k < 0
    · rw [if_pos hy]
      constructor
      · rintro ⟨z, hzm, h⟩
        rcases List.mem_cons.1 hzm with rfl | hzm
        · exact .inr ⟨_, List.mem_cons_self, h⟩
        · rcases ih.1 ⟨z, hzm, h⟩ with e | ⟨x, hx, e⟩
          · exact .inl e
          · exact .inr ⟨x, List.mem_cons_of_mem _ hx, e⟩
      · rintro (e | ⟨x, hx, e⟩)
        · obtain ⟨z, h1, h2⟩ := ih.2 (.inl e)
          exact ⟨z, List.mem_cons_of_mem _ h1, h2⟩
        · rcases List.mem_cons.1 hx with rfl | hx
          · exact ⟨_, List.mem_cons_self, e⟩
          · obtain ⟨z, h1, h2⟩ := ih.2 (.inr ⟨x, hx, e⟩)
            exact ⟨z, List.mem_cons_of_mem _ h1, h2⟩
    · rw [if_neg hy]
      by_cases h0 : cf y k = 0
      · rw [if_pos h0]
        have hyk := (hz y k).1 h0
        constructor
        · rintro ⟨z, hzm, h⟩
          rcases List.mem_cons.1 hzm with rfl | hzm
          · exact .inl (by rw [← h, O.key_put, hyk])
          · exact .inr ⟨z, List.mem_cons_of_mem _ hzm, h⟩
        · rintro (e | ⟨x, hx, e⟩)
          · exact ⟨_, List.mem_cons_self, by rw [O.key_put, hyk, e]⟩
          · rcases List.mem_cons.1 hx with rfl | hx
            · exact ⟨_, List.mem_cons_self, by rw [O.key_put, e]⟩
            · exact ⟨x, List.mem_cons_of_mem _ hx, e⟩
      · rw [if_neg h0]
        constructor
        · rintro ⟨z, hzm, h⟩
          rcases List.mem_cons.1 hzm with rfl | hzm
          · exact .inl (by rw [← h, O.key_mk])
          · exact .inr ⟨z, hzm, h⟩
        · rintro (e | ⟨x, hx, e⟩)
          · exact ⟨_, List.mem_cons_self, by rw [O.key_mk, e]⟩
          · exact ⟨x, List.mem_cons_of_mem _ hx, e⟩
/-- What is added up under a key. -/
def totA [DecidableEq κ] : List (κ × Int) → κ → Int
  | [], _ => 0
  | p :: r, k => (if p.1 = k then p.2 else 0) + totA r k
theorem totA_none [DecidableEq κ] (k : κ) : ∀ a : List (κ × Int), (∀ p ∈ a, p.1 ≠ k) → totA a k = 0
  | [], _ => rfl
  | p :: r, h => by rw [totA, if_neg (h p List.mem_cons_self), totA_none k r (fun q hq => h q (List.mem_cons_of_mem _ hq))]; rfl
variable (cf mk put val) in
def stepA (o : List α) (p : κ × Int) : List α := addR cf mk put p.1 (wrap64 p.2) (fun y => wrap64 (val y + p.2)) o
/-- The row after all: in order, each key's amount, and which keys there are. -/
theorem fold_inv [DecidableEq κ] (O : KeyOrd cf key mk put) (hz : ∀ a k, cf a k = 0 ↔ key a = k) (hm : ∀ k v, val (mk k v) = v) (hp : ∀ a v, val (put a v) = v) : ∀ (ps : List (κ × Int)) (o : List α) (f : κ → Int), sortedK cf key o →
    (∀ y ∈ o, val y = wrap64 (f (key y))) → (∀ k, (∀ y ∈ o, key y ≠ k) → f k = 0) →
    sortedK cf key (ps.foldl (stepA cf mk put val) o) ∧ (∀ y ∈ ps.foldl (stepA cf mk put val) o, val y = wrap64 (f (key y) + totA ps (key y))) ∧
      (∀ k, (∃ y ∈ ps.foldl (stepA cf mk put val) o, key y = k) ↔ (∃ y ∈ o, key y = k) ∨ ∃ p ∈ ps, p.1 = k)
  | [], o, f, hs, hv, hn => by
    refine ⟨hs, fun y hy => ?_, fun k => ?_⟩
    · rw [totA, Int.add_zero]; exact hv y hy
    · constructor
      · exact .inl
      · rintro (h | ⟨p, hp', -⟩)
        · exact h
        · exact absurd hp' (by simp)
  | p :: ps, o, f, hs, hv, hn => by
    rw [List.foldl_cons]
    have hs2 : sortedK cf key (stepA cf mk put val o p) := addR_sorted O _ _ _ o hs
    have hk := fun q => addR_keys O hz p.1 (wrap64 p.2) (fun y => wrap64 (val y + p.2)) q o
    obtain ⟨r1, r2, r3⟩ := fold_inv O hz hm hp ps (stepA cf mk put val o p) (fun k => f k + if p.1 = k then p.2 else 0) hs2 (fun y hy => by
      rcases addR_mem O hz hm hp p.1 (wrap64 p.2) (fun y => wrap64 (val y + p.2)) o hs y hy with ⟨a, b⟩ | ⟨a, ⟨x, hx, b, c⟩ | ⟨b, c⟩⟩
      · rw [if_neg (fun e => a e.symm), Int.add_zero]; exact hv y b
      · rw [if_pos a.symm, c, hv x hx, b, a, wrap_add]
      · rw [if_pos a.symm, c, a, hn p.1 b, Int.zero_add]) (fun k hkn => by
      have h1 : p.1 ≠ k := fun e => by
        obtain ⟨z, hz1, hz2⟩ := (hk k).2 (.inl e.symm)
        exact hkn z hz1 hz2
      rw [if_neg h1, Int.add_zero]
      refine hn k (fun y hy e => ?_)
      obtain ⟨z, hz1, hz2⟩ := (hk k).2 (.inr ⟨y, hy, e⟩)
      exact hkn z hz1 hz2)
    refine ⟨r1, fun y hy => ?_, fun k => ?_⟩
    · rw [r2 y hy, totA, Int.add_assoc]
    · rw [r3 k]
      constructor
      · rintro (h | ⟨q, hq, e⟩)
        · rcases (hk k).1 h with e | h
          · exact .inr ⟨p, List.mem_cons_self, e.symm⟩
          · exact .inl h
        · exact .inr ⟨q, List.mem_cons_of_mem _ hq, e⟩
      · rintro (h | ⟨q, hq, e⟩)
        · exact .inl ((hk k).2 (.inr h))
        · rcases List.mem_cons.1 hq with rfl | hq
          · exact .inl ((hk k).2 (.inl e.symm))
          · exact .inr ⟨q, hq, e⟩
/-- A row in order, put together anew, is itself. -/
theorem addR_end (O : KeyOrd cf key mk put) (k : κ) (v : Int) (w : α → Int) : ∀ (l : List α), (∀ y ∈ l, cf y k < 0) → addR cf mk put k v w l = l ++ [mk k v]
  | [], _ => rfl
  | y :: r, h => by
    rw [addR, if_pos (h y List.mem_cons_self), addR_end O k v w r (fun z hz => h z (List.mem_cons_of_mem _ hz))]
    rfl
end
end Go.Proofs.YtkfgnjdchnpjeaaDoor

