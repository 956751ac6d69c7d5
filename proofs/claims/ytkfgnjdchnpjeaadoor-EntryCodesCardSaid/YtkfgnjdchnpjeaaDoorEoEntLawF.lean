/- EntLawA, EntLawB, EntLawC, EntLawE, EntLawF: what the law EntryCodes asks of it. -/
import Derived.Test.YtkfgnjdchnpjeaaDoorEoOpenE
import Derived.Test.YtkfgnjdchnpjeaaDoorEoWirA
import Derived.Test.YtkfgnjdchnpjeaaDoorEoQDx3
import Derived.Test.YtkfgnjdchnpjeaaDoorEoQDx6
import Derived.Test.YtkfgnjdchnpjeaaDoorEoQDx0
import Derived.Test.YtkfgnjdchnpjeaaDoorEoEntDel
import Derived.Test.YtkfgnjdchnpjeaaDoorEoQDx1
import Derived.Test.YtkfgnjdchnpjeaaDoorEoQDx5
import Derived.Test.YtkfgnjdchnpjeaaDoorEoQDx4
import Derived.Test.YtkfgnjdchnpjeaaDoorEoEntCmp
import Derived.Test.YtkfgnjdchnpjeaaDoorEoEntRev
import Derived.Test.YtkfgnjdchnpjeaaDoorEoQDx12
import Derived.Test.YtkfgnjdchnpjeaaDoorEoEntLive
import Derived.Test.YtkfgnjdchnpjeaaDoorEoWirCe
import Derived.Test.YtkfgnjdchnpjeaaDoorEoEntRDec
section
namespace Go.Proofs.YtkfgnjdchnpjeaaDoor.Pure
open Go Go.RowKit Go.Proofs.YtkfgnjdchnpjeaaDoor Go.Proofs.YtkfgnjdchnpjeaaDoor.QD Go.Proofs.YtkfgnjdchnpjeaaDoorW.PrintWords
set_option linter.unusedVariables false
set_option linter.unusedSimpArgs false

def I64 (x : Int) : Prop := -9223372036854775808 ≤ x ∧ x ≤ 9223372036854775807
theorem wfI {a : Int} (h : (Lit.int .i64 a).wf = true) : I64 a := by
  have e1 : IntKind.i64.min = -9223372036854775808 := rfl
  have e2 : IntKind.i64.max = 9223372036854775807 := rfl
  simp [Lit.wf, e1, e2] at h
  exact h
/-- An entry that is not great. -/
def fitE (e : S25) : Prop := I64 e.f0 ∧ I64 e.f1 ∧ I64 e.f2 ∧ I64 e.f3 ∧ I64 e.f4 ∧ I64 e.f5 ∧ e.f6.size ≤ 1000 ∧ e.f7.size ≤ 1000 ∧ e.f8.length ≤ 30 ∧ (∀ x ∈ e.f8, I64 x.f0 ∧ I64 x.f1 ∧ x.f2.size ≤ 100)
theorem rdL_drop (l : List S46) (i : Nat) (h : i < l.length) : ∃ x, l.drop i = x :: l.drop (i + 1) ∧ rd_T46 l (i : Int) = x ∧ x ∈ l := by
  refine ⟨l[i], List.drop_eq_getElem_cons h, ?_, List.getElem_mem _⟩
  unfold rd_T46
  rw [Int.toNat_natCast, List.getD_eq_getElem?_getD, List.getElem?_eq_getElem h]
  rfl
/-- Great. -/
def greatB (e : S25) : Bool := decide (30 < e.f8.length) || decide (1000 < e.f6.size) || decide (1000 < e.f7.size) || e.f8.any fun x => decide (100 < x.f2.size)
theorem great_l0 (e : S25) (hl : e.f8.length ≤ 30) : ∀ (d k i : Nat), e.f8.length - i = d → i ≤ e.f8.length → d + 1 ≤ k →
    corebankref19_Great.l0 k (i : Int) e.f0 e.f1 e.f2 e.f3 e.f4 e.f5 e.f6 e.f7 e.f8 e.f9 = some ((e.f8.drop i).any fun x => decide (100 < x.f2.size))
  | d, 0, i, _, _, hk => by omega
  | d, k + 1, i, hd, hi, hk => by
    simp only [corebankref19_Great.l0]
    by_cases h : i < e.f8.length
    · obtain ⟨x, hx, hr, -⟩ := rdL_drop e.f8 i h
      rw [if_pos (by omega), if_pos (by omega), hr, hx, List.any_cons]
      by_cases h1 : 100 < x.f2.size
      · rw [if_pos (by omega), decide_eq_true h1]
        rfl
      · rw [if_neg (by omega), decide_eq_false h1, w64s i (by omega)]
        exact great_l0 e hl (d - 1) k (i + 1) (by omega) (by omega) (by omega)
    · rw [if_neg (by omega), List.drop_eq_nil_of_le (by omega)]
      rfl
theorem great_ev (e : S25) (k : Nat) (hk : 40 ≤ k) : corebankref19_Great.f k e.f0 e.f1 e.f2 e.f3 e.f4 e.f5 e.f6 e.f7 e.f8 e.f9 = some (greatB e) := by
  obtain ⟨k, rfl⟩ : ∃ n, k = n + 1 := ⟨k - 1, by omega⟩
  unfold corebankref19_Great.f greatB
  simp only [corebankref19_Great.j0]
  by_cases h1 : 30 < e.f8.length
  · rw [if_pos (by omega), if_pos trivial, decide_eq_true h1]
    rfl
  · rw [if_neg (by omega), decide_eq_false h1]
    by_cases h2 : 1000 < e.f6.size
    · rw [if_pos (by omega), if_pos trivial, decide_eq_true h2]
      rfl
    · rw [if_neg (by omega), decide_eq_false h2]
      by_cases h3 : 1000 < e.f7.size
      · rw [decide_eq_true (by omega : (e.f7.size : Int) > 1000), if_pos rfl, decide_eq_true h3]
        rfl
      · rw [decide_eq_false (by omega : ¬ (e.f7.size : Int) > 1000), if_neg (by simp), decide_eq_false h3]
        have := great_l0 e (by omega) e.f8.length k 0 rfl (by omega) (by omega)
        rw [List.drop_zero] at this
        exact this
theorem great_fit {e : S25} (ho : okT25 140737488351232 e) (h : greatB e = false) : fitE e := by
  obtain ⟨w0, w1, w2, w3, w4, w5, -, -, ⟨-, hL⟩, -⟩ := ho
  unfold greatB at h
  simp only [Bool.or_eq_false_iff, decide_eq_false_iff_not] at h
  obtain ⟨⟨⟨h1, h2⟩, h3⟩, h4⟩ := h
  refine ⟨wfI w0, wfI w1, wfI w2, wfI w3, wfI w4, wfI w5, by omega, by omega, by omega, fun x hx => ?_⟩
  have := List.any_eq_false.1 h4 x hx
  obtain ⟨a, b, -⟩ := hL x hx
  exact ⟨wfI a, wfI b, by simpa using this⟩
/-- A text's signs and its size. -/
def textB (lo most : Nat) (x : ByteArray) : Bool := (x.data.toList.all fun c => decide (lo ≤ c.toNat) && decide (c.toNat ≤ 126)) && decide (x.size ≤ most)
def dayB (n : Int) : Bool := decide (0 ≤ n) && decide (n ≤ 73048)
end Go.Proofs.YtkfgnjdchnpjeaaDoor.Pure

end
section
namespace Go.Proofs.YtkfgnjdchnpjeaaDoor.Pure
open Go Go.RowKit Go.Proofs.YtkfgnjdchnpjeaaDoor Go.Proofs.YtkfgnjdchnpjeaaDoor.QD Go.Proofs.YtkfgnjdchnpjeaaDoorW.PrintWords
set_option linter.unusedVariables false
set_option linter.unusedSimpArgs false

theorem sameL_l0 (l : List S46) (hl : l.length ≤ 1000000) : ∀ (d k i : Nat), l.length - i = d → i ≤ l.length → d + 1 ≤ k → corebankref19_SameLegs.l0 k l l (i : Int) = some true
  | d, 0, i, _, _, hk => by omega
  | d, k + 1, i, hd, hi, hk => by
    simp only [corebankref19_SameLegs.l0]
    by_cases h : i < l.length
    · rw [if_pos (by omega), if_pos (by omega), if_pos (by omega), if_neg (by simp), w64s i (by omega)]
      exact sameL_l0 l hl (d - 1) k (i + 1) (by omega) (by omega) (by omega)
    · rw [if_neg (by omega)]
theorem sameL_ev (l : List S46) (hl : l.length ≤ 1000000) (k : Nat) (hk : l.length + 1 ≤ k) : corebankref19_SameLegs.f k l l = some true := by
  unfold corebankref19_SameLegs.f
  rw [if_pos rfl]
  exact sameL_l0 l hl l.length k 0 rfl (by omega) hk
end Go.Proofs.YtkfgnjdchnpjeaaDoor.Pure

end
section
namespace Go.Proofs.YtkfgnjdchnpjeaaDoor.Pure
open Go Go.RowKit Go.Proofs.YtkfgnjdchnpjeaaDoor Go.Proofs.YtkfgnjdchnpjeaaDoor.QD Go.Proofs.YtkfgnjdchnpjeaaDoorW.PrintWords
set_option linter.unusedVariables false
set_option linter.unusedSimpArgs false

def headB (e : S25) : Prop := textB 32 64 e.f7 = true ∧ dayB e.f1 = true ∧ dayB e.f2 = true ∧ dayB e.f5 = true ∧ 1 ≤ e.f3 ∧ e.f3 ≤ 14 ∧ 0 ≤ e.f4 ∧ e.f4 ≤ 3
instance (e : S25) : Decidable (headB e) := inferInstanceAs (Decidable (_ ∧ _))
end Go.Proofs.YtkfgnjdchnpjeaaDoor.Pure

end
section
namespace Go.Proofs.YtkfgnjdchnpjeaaDoor.Pure
open Go Go.RowKit Go.Proofs.YtkfgnjdchnpjeaaDoor Go.Proofs.YtkfgnjdchnpjeaaDoor.QD Go.Proofs.YtkfgnjdchnpjeaaDoorW.PrintWords
set_option linter.unusedVariables false
set_option linter.unusedSimpArgs false

theorem live_some : corebanklaw19_live.f = some true := rfl
theorem rsame_ev (a0 a1 a2 a3 a4 a5 : Int) (a6 a7 : ByteArray) (l : List S46) (a9 : Int) (hl : l.length ≤ 1000000) (k : Nat) (hk : l.length + 1 ≤ k) : corebankref19_Same.f k a0 a1 a2 a3 a4 a5 a6 a7 l a9 a0 a1 a2 a3 a4 a5 a6 a7 l a9 = some true := by
  unfold corebankref19_Same.f
  rw [if_pos rfl, if_pos rfl, if_pos rfl, if_pos rfl, if_pos rfl, if_pos rfl, if_pos rfl, if_pos rfl, if_pos rfl, sameL_ev l hl k hk]
  rfl
end Go.Proofs.YtkfgnjdchnpjeaaDoor.Pure

end
section
namespace Go.Proofs.YtkfgnjdchnpjeaaDoor.Pure
open Go Go.RowKit Go.Proofs.YtkfgnjdchnpjeaaDoor Go.Proofs.YtkfgnjdchnpjeaaDoor.QD Go.Proofs.YtkfgnjdchnpjeaaDoorW.PrintWords
set_option linter.unusedVariables false
set_option linter.unusedSimpArgs false

theorem itoaS_size {x : Int} (h : I64 x) : (itoaS x).size ≤ 22 := by
  have := Lib.itoa_length_le x h.1 h.2
  have hz : (itoaS x).size = (Lib.itoa x).length := by rw [← size_list]; rfl
  omega
theorem str_num {x : Int} (h : I64 x) : strconv_Itoa.f x = some (itoaS x) := by
  unfold strconv_Itoa.f
  rw [if_pos ⟨h.1, h.2⟩]
  rfl
theorem sum_bound (B : Nat) : ∀ l : List ByteArray, (∀ s ∈ l, s.size ≤ B) → (l.map (·.size)).sum ≤ B * l.length
  | [], _ => by simp
  | x :: r, h => by
    have h1 := h x List.mem_cons_self
    have h2 := sum_bound B r (fun s hs => h s (List.mem_cons_of_mem _ hs))
    simp only [List.map_cons, List.sum_cons, List.length_cons]
    have h3 : B * (r.length + 1) = B * r.length + B := Nat.mul_succ B r.length
    omega
theorem packS_size (B : Nat) (l : List ByteArray) (h : ∀ s ∈ l, s.size ≤ B) (hB : B ≤ 1000000000) : (packS l).size ≤ 22 * l.length + B * l.length := by
  have h1 := packL_bound l (fun s hs => Nat.le_trans (h s hs) (by omega))
  have h2 := sum_bound B l h
  have h3 : (packS l).size = (packL l).length := by rw [← size_list]; rfl
  omega
/-- A leg's texts, and its encoding. -/
def legTx (x : S46) : List ByteArray := [itoaS x.f0, itoaS x.f1, x.f2]
def legP (x : S46) : ByteArray := packS (legTx x)
def fitL (x : S46) : Prop := I64 x.f0 ∧ I64 x.f1 ∧ x.f2.size ≤ 5000
theorem legTx_size {x : S46} (B : Nat) (h0 : I64 x.f0) (h1 : I64 x.f1) (hB : x.f2.size ≤ B) (hB2 : 22 ≤ B) : ∀ s ∈ legTx x, s.size ≤ B := by
  intro s hs
  have a0 := itoaS_size h0
  have a1 := itoaS_size h1
  simp only [legTx, List.mem_cons, List.not_mem_nil, or_false] at hs
  rcases hs with rfl | rfl | rfl <;> omega
theorem legP_size {x : S46} (h : fitL x) : (legP x).size ≤ 16000 := by
  have := packS_size 5000 (legTx x) (legTx_size 5000 h.1 h.2.1 h.2.2 (by omega)) (by omega)
  have e : (legTx x).length = 3 := rfl
  rw [e] at this
  unfold legP
  omega
theorem leg_enc {x : S46} (h : fitL x) : legT x = some (legP x) := by
  unfold legT
  rw [str_num h.1, Option.bind_some, str_num h.2.1, Option.bind_some]
  have h1 := legP_size h
  have h2 : (packL (legTx x)).length = (legP x).size := by rw [← size_list]; rfl
  exact pack_eq (legTx x) (by omega)
theorem legs_enc : ∀ (l : List S46) (acc : List ByteArray), (∀ x ∈ l, fitL x) → legsT l acc = some (acc ++ l.map legP)
  | [], acc, _ => by rw [legsT, List.map_nil, List.append_nil]
  | x :: r, acc, h => by
    rw [legsT, leg_enc (h x List.mem_cons_self), Option.bind_some, legs_enc r _ (fun y hy => h y (List.mem_cons_of_mem _ hy)), List.append_assoc]
    rfl
def entTx (e : S25) : List ByteArray := [itoaS e.f0, itoaS e.f1, itoaS e.f2, itoaS e.f3, itoaS e.f4, itoaS e.f5, e.f6, e.f7, packS (e.f8.map legP)]
def entP (e : S25) : ByteArray := packS (entTx e)
/-- Numbers, texts and legs are not too great. -/
def fitX (e : S25) : Prop := I64 e.f0 ∧ I64 e.f1 ∧ I64 e.f2 ∧ I64 e.f3 ∧ I64 e.f4 ∧ I64 e.f5 ∧ e.f6.size ≤ 5000 ∧ e.f7.size ≤ 5000 ∧ e.f8.length ≤ 5000 ∧ ∀ x ∈ e.f8, fitL x
theorem fit_X {e : S25} (h : fitE e) : fitX e := by
  obtain ⟨h0, h1, h2, h3, h4, h5, h6, h7, h8, hL⟩ := h
  exact ⟨h0, h1, h2, h3, h4, h5, by omega, by omega, by omega, fun x hx => by
    obtain ⟨a, b, c⟩ := hL x hx
    exact ⟨a, b, by omega⟩⟩
theorem legsP_size {l : List S46} (hl : l.length ≤ 5000) (h : ∀ x ∈ l, fitL x) : (∀ s ∈ l.map legP, s.size ≤ 16000) ∧ (packS (l.map legP)).size ≤ 90000000 := by
  have h1 : ∀ s ∈ l.map legP, s.size ≤ 16000 := fun s hs => by
    obtain ⟨x, hx, rfl⟩ := List.mem_map.1 hs
    exact legP_size (h x hx)
  have h2 := packS_size 16000 (l.map legP) h1 (by omega)
  rw [List.length_map] at h2
  exact ⟨h1, by omega⟩
theorem entTx_size {e : S25} (h : fitX e) : ∀ s ∈ entTx e, s.size ≤ 90000000 := by
  obtain ⟨h0, h1, h2, h3, h4, h5, h6, h7, h8, hL⟩ := h
  have a0 := itoaS_size h0
  have a1 := itoaS_size h1
  have a2 := itoaS_size h2
  have a3 := itoaS_size h3
  have a4 := itoaS_size h4
  have a5 := itoaS_size h5
  have a8 := (legsP_size h8 hL).2
  intro s hs
  simp only [entTx, List.mem_cons, List.not_mem_nil, or_false] at hs
  rcases hs with rfl | rfl | rfl | rfl | rfl | rfl | rfl | rfl | rfl <;> omega
theorem enc_eq {e : S25} (h : fitX e) : entry_Encode.f e.f0 e.f1 e.f2 e.f3 e.f4 e.f5 e.f6 e.f7 e.f8 e.f9 = some (entP e) := by
  have hz := packS_size 90000000 (entTx e) (entTx_size h) (by omega)
  have e9 : (entTx e).length = 9 := rfl
  rw [e9] at hz
  have hz2 : (packL (entTx e)).length = (packS (entTx e)).size := by rw [← size_list]; rfl
  obtain ⟨h0, h1, h2, h3, h4, h5, h6, h7, h8, hL⟩ := h
  obtain ⟨-, hq⟩ := legsP_size h8 hL
  have hq2 : (packL (e.f8.map legP)).length = (packS (e.f8.map legP)).size := by rw [← size_list]; rfl
  unfold entry_Encode.f
  rw [if_pos (by omega), legs_enc e.f8 [] hL, Option.bind_some, List.nil_append, str_num h0, Option.bind_some, str_num h1, Option.bind_some, str_num h2, Option.bind_some, str_num h3, Option.bind_some, str_num h4, Option.bind_some, str_num h5, Option.bind_some, pack_eq (e.f8.map legP) (by omega), Option.bind_some]
  exact pack_eq (entTx e) (by omega)
/-- The reference encodes alike. -/
theorem renc_l0 (e : S25) (h : fitX e) : ∀ (d i : Nat), e.f8.length - i = d → i ≤ e.f8.length → Ev (fun k => corebankref19_Encode.l0 k ((e.f8.take i).map legP) (i : Int) e.f0 e.f1 e.f2 e.f3 e.f4 e.f5 e.f6 e.f7 e.f8 e.f9) (entP e)
  | d, i, hd, hi => by
    have hsz := entTx_size h
    obtain ⟨h0, h1, h2, h3, h4, h5, h6, h7, h8, hL⟩ := id h
    by_cases hlt : i < e.f8.length
    · obtain ⟨x, hx, hr, hm⟩ := rdL_drop e.f8 i hlt
      have hfx := hL x hm
      obtain ⟨K1, e1⟩ := int_ev x.f0 hfx.1
      obtain ⟨K2, e2⟩ := int_ev x.f1 hfx.2.1
      obtain ⟨K3, e3⟩ := rpack_ev (legTx x) (by simp [legTx]) (fun s hs => Nat.le_trans (legTx_size 5000 hfx.1 hfx.2.1 hfx.2.2 (by omega) s hs) (by omega))
      obtain ⟨K4, e4⟩ := renc_l0 e h (d - 1) (i + 1) (by omega) (by omega)
      refine ⟨K1 + K2 + K3 + K4 + 1, fun k hk => ?_⟩
      obtain ⟨k, rfl⟩ : ∃ q, k = q + 1 := ⟨k - 1, by omega⟩
      have g1 : corebankref07_Int.f k x.f0 = _ := e1 k (by omega)
      have g2 : corebankref07_Int.f k x.f1 = _ := e2 k (by omega)
      have g3 : corebankref07_Pack.f k [itoaS x.f0, itoaS x.f1, x.f2] = some (legP x) := e3 k (by omega)
      have g4 : corebankref19_Encode.l0 k ((e.f8.take (i + 1)).map legP) ((i + 1 : Nat) : Int) e.f0 e.f1 e.f2 e.f3 e.f4 e.f5 e.f6 e.f7 e.f8 e.f9 = _ := e4 k (by omega)
      show corebankref19_Encode.l0 (k + 1) _ _ _ _ _ _ _ _ _ _ _ _ = _
      simp only [corebankref19_Encode.l0]
      have htk : (e.f8.take (i + 1)).map legP = (e.f8.take i).map legP ++ [legP x] := by
        rw [take_rdL e.f8 i hlt, List.map_append, hr]
        rfl
      rw [if_pos (by omega), if_pos (by omega), hr, g1, Option.bind_some, g2, Option.bind_some, g3, Option.bind_some, if_pos (by rw [List.length_map, List.length_take]; omega), w64s i (by omega), ← htk]
      exact g4
    · obtain rfl : i = e.f8.length := by omega
      obtain ⟨K0, e0⟩ := int_ev e.f0 h0
      obtain ⟨K1, e1⟩ := int_ev e.f1 h1
      obtain ⟨K2, e2⟩ := int_ev e.f2 h2
      obtain ⟨K3, e3⟩ := int_ev e.f3 h3
      obtain ⟨K4, e4⟩ := int_ev e.f4 h4
      obtain ⟨K5, e5⟩ := int_ev e.f5 h5
      obtain ⟨K6, e6⟩ := rpack_ev (e.f8.map legP) (by rw [List.length_map]; omega) (fun s hs => Nat.le_trans ((legsP_size h8 hL).1 s hs) (by omega))
      obtain ⟨K7, e7⟩ := rpack_ev (entTx e) (by simp [entTx]) (fun s hs => Nat.le_trans (hsz s hs) (by omega))
      refine ⟨K0 + K1 + K2 + K3 + K4 + K5 + K6 + K7 + 1, fun k hk => ?_⟩
      obtain ⟨k, rfl⟩ : ∃ q, k = q + 1 := ⟨k - 1, by omega⟩
      have g0 : corebankref07_Int.f k e.f0 = _ := e0 k (by omega)
      have g1 : corebankref07_Int.f k e.f1 = _ := e1 k (by omega)
      have g2 : corebankref07_Int.f k e.f2 = _ := e2 k (by omega)
      have g3 : corebankref07_Int.f k e.f3 = _ := e3 k (by omega)
      have g4 : corebankref07_Int.f k e.f4 = _ := e4 k (by omega)
      have g5 : corebankref07_Int.f k e.f5 = _ := e5 k (by omega)
      have g6 : corebankref07_Pack.f k (e.f8.map legP) = _ := e6 k (by omega)
      have g7 : corebankref07_Pack.f k [itoaS e.f0, itoaS e.f1, itoaS e.f2, itoaS e.f3, itoaS e.f4, itoaS e.f5, e.f6, e.f7, packS (e.f8.map legP)] = some (entP e) := e7 k (by omega)
      show corebankref19_Encode.l0 (k + 1) _ _ _ _ _ _ _ _ _ _ _ _ = _
      simp only [corebankref19_Encode.l0]
      rw [if_neg (by omega), g0, Option.bind_some, g1, Option.bind_some, g2, Option.bind_some, g3, Option.bind_some, g4, Option.bind_some, g5, Option.bind_some, List.take_length, g6, Option.bind_some, g7]
      rfl
  termination_by d => d
theorem renc_ev {e : S25} (h : fitX e) : Ev (fun k => corebankref19_Encode.f k e.f0 e.f1 e.f2 e.f3 e.f4 e.f5 e.f6 e.f7 e.f8 e.f9) (entP e) := by
  have := renc_l0 e h e.f8.length 0 rfl (by omega)
  rw [List.take_zero] at this
  exact this
/-- The numbers of texts, or the first error. -/
def goS : List ByteArray → List Int → Sum Int (List Int)
  | [], ns => .inr ns
  | s :: r, ns => if (takeR s.data.toList).2 = 0 then goS r (ns ++ [(takeR s.data.toList).1]) else .inl (takeR s.data.toList).2
theorem goS_eq : ∀ (l : List ByteArray) (ns : List Int), (∀ s ∈ l, s.size ≤ 281474976710656) → decGo l ns = some (goS l ns)
  | [], ns, _ => rfl
  | s :: r, ns, h => by
    rw [decGo, takeInt_eq s (h s List.mem_cons_self), Option.bind_some, goS]
    split
    · exact goS_eq r _ (fun t ht => h t (List.mem_cons_of_mem _ ht))
    · rfl
theorem rgoS_eq (k B : Nat) (hB : B ≤ 281474976710656) (hk : B + 6 ≤ k) : ∀ (l : List ByteArray) (ns : List Int), (∀ s ∈ l, s.size ≤ B) → rdecGo k l ns = some (goS l ns)
  | [], ns, _ => rfl
  | s :: r, ns, h => by
    have := h s List.mem_cons_self
    rw [rdecGo, rtake_ev s (by omega) k (by omega), Option.bind_some, goS]
    split
    · exact rgoS_eq k B hB hk r _ (fun t ht => h t (List.mem_cons_of_mem _ ht))
    · rfl
theorem goS_len : ∀ (l : List ByteArray) (ns xs : List Int), goS l ns = .inr xs → xs.length = ns.length + l.length
  | [], ns, xs, h => by
    rw [goS] at h
    injection h with h
    rw [h]
    rfl
  | s :: r, ns, xs, h => by
    rw [goS] at h
    split at h
    · have := goS_len r _ _ h
      simp only [List.length_append, List.length_cons, List.length_nil] at this ⊢
      omega
    · cases h
theorem unpack_sizes {l : List UInt8} (h : (unpackS l).2 = 0) : (unpackS l).1.length ≤ l.length ∧ ∀ s ∈ (unpackS l).1, s.size ≤ l.length := by
  have hu : unpkS (l.length + 1) l [] = ((unpackS l).1, 0) := by rw [← h]; rfl
  refine ⟨unpk_len hu, fun s hs => ?_⟩
  have hp : packL (unpackS l).1 = l := by simpa [packL] using pack_unpk _ _ _ _ hu
  obtain ⟨a, b, hab⟩ := List.append_of_mem hs
  have := congrArg List.length hp
  rw [hab, packL_append] at this
  have hz := size_list s
  simp only [packL, List.length_append, List.length_cons] at this
  omega
def leg3 : List ByteArray → S46 × Int
  | [a, b, c] => if (takeR a.data.toList).2 = 0 then (if (takeR b.data.toList).2 = 0 then (⟨(takeR a.data.toList).1, (takeR b.data.toList).1, c⟩, 0) else (z46, (takeR b.data.toList).2)) else (z46, (takeR a.data.toList).2)
  | _ => (z46, 25)
/-- The leg of a text. -/
def legD (s : ByteArray) : S46 × Int := if (unpackS s.data.toList).2 = 0 then leg3 (unpackS s.data.toList).1 else (z46, (unpackS s.data.toList).2)
theorem leg3_ne {l : List ByteArray} (h : l.length ≠ 3) : leg3 l = (z46, 25) := by
  unfold leg3
  split
  · simp at h
  · rfl
theorem three {l : List ByteArray} (h : l.length = 3) : ∃ a b c, l = [a, b, c] := by
  match l, h with
  | [a, b, c], _ => exact ⟨a, b, c, rfl⟩
theorem leg_eq (s : ByteArray) (hs : s.size ≤ 1000000000) : entry_leg.f s = some ((legD s).1.f0, (legD s).1.f1, (legD s).1.f2, (legD s).2) := by
  unfold entry_leg.f legD
  rw [unpack_eq s hs, Option.bind_some]
  by_cases hc : (unpackS s.data.toList).2 = 0
  case neg => rw [if_neg hc, if_neg hc]; rfl
  rw [if_pos hc, if_pos hc]
  obtain ⟨-, hz⟩ := unpack_sizes hc
  rw [size_list] at hz
  generalize (unpackS s.data.toList).1 = l at hz ⊢
  by_cases h3 : l.length = 3
  case neg => rw [if_neg (by omega), leg3_ne h3]; rfl
  obtain ⟨a, b, c, rfl⟩ := three h3
  have r0 : rdOf ByteArray.empty [a, b, c] 0 = a := rfl
  have r1 : rdOf ByteArray.empty [a, b, c] 1 = b := rfl
  have r2 : rdOf ByteArray.empty [a, b, c] 2 = c := rfl
  have ha := hz a (by simp)
  have hb := hz b (by simp)
  rw [if_pos (by simp), if_pos (by simp), r0, takeInt_eq a (by omega), Option.bind_some, r1, takeInt_eq b (by omega), r2]
  unfold leg3
  dsimp only
  by_cases h0 : (takeR a.data.toList).2 = 0
  case neg => rw [if_neg h0, if_neg h0]; rfl
  rw [if_pos h0, if_pos h0, if_pos (by simp), Option.bind_some]
  by_cases h1 : (takeR b.data.toList).2 = 0
  case neg => rw [if_neg h1, if_neg h1]; rfl
  rw [if_pos h1, if_pos h1, if_pos (by simp)]
theorem rleg_taken (s : ByteArray) (hs : s.size ≤ 1000000) : Ev (fun k => corebankref19_taken.f k s) ((legD s).1.f0, (legD s).1.f1, (legD s).1.f2, (legD s).2) := by
  obtain ⟨K, hK⟩ := runpack_ev s (by omega)
  refine ⟨K + 2000000, fun k hk => ?_⟩
  have g0 : corebankref07_Unpack.f k s = _ := hK k (by omega)
  show corebankref19_taken.f k s = _
  unfold corebankref19_taken.f legD
  rw [g0, Option.bind_some]
  by_cases hc : (unpackS s.data.toList).2 = 0
  case neg => rw [if_neg hc, if_neg hc]; rfl
  rw [if_pos hc, if_pos hc]
  obtain ⟨-, hz⟩ := unpack_sizes hc
  rw [size_list] at hz
  generalize (unpackS s.data.toList).1 = l at hz ⊢
  by_cases h3 : l.length = 3
  case neg => rw [if_neg (by omega), leg3_ne h3]; rfl
  obtain ⟨a, b, c, rfl⟩ := three h3
  have r0 : rdOf ByteArray.empty [a, b, c] 0 = a := rfl
  have r1 : rdOf ByteArray.empty [a, b, c] 1 = b := rfl
  have r2 : rdOf ByteArray.empty [a, b, c] 2 = c := rfl
  have ha := hz a (by simp)
  have hb := hz b (by simp)
  rw [if_pos (by simp), if_pos (by simp), r0, rtake_ev a (by omega) k (by omega), Option.bind_some, r1, rtake_ev b (by omega) k (by omega), r2]
  unfold leg3
  dsimp only
  by_cases h0 : (takeR a.data.toList).2 = 0
  case neg => rw [if_neg h0, if_neg h0]; rfl
  rw [if_pos h0, if_pos h0, if_pos (by simp), Option.bind_some]
  by_cases h1 : (takeR b.data.toList).2 = 0
  case neg => rw [if_neg h1, if_neg h1]; rfl
  rw [if_pos h1, if_pos h1, if_pos (by simp)]
def legsD : List ByteArray → List S46 → List S46 × Int
  | [], a => (a, 0)
  | s :: r, a => if (legD s).2 = 0 then legsD r (a ++ [(legD s).1]) else ([], (legD s).2)
/-- The legs of a text. -/
def legsV (v : ByteArray) : List S46 × Int := if (unpackS v.data.toList).2 = 0 then legsD (unpackS v.data.toList).1 [] else ([], (unpackS v.data.toList).2)
theorem legs_l0' (us : List ByteArray) (hu : us.length ≤ 1000000000) (hs : ∀ s ∈ us, s.size ≤ 1000000000) : ∀ (d k i : Nat) (acc : List S46), us.length - i = d → i ≤ us.length → acc.length ≤ i → d + 1 ≤ k →
    entry_legs.l0 k acc us (us.length : Int) (i : Int) = some (legsD (us.drop i) acc)
  | d, 0, i, acc, _, _, _, hk => by omega
  | d, k + 1, i, acc, hd, hi, ha, hk => by
    simp only [entry_legs.l0]
    by_cases h : i < us.length
    · obtain ⟨s, hdr, hr, hm⟩ := rdOf_drop ByteArray.empty us i h
      rw [if_pos (by omega), if_pos (by omega), if_pos (by omega), hr, leg_eq s (hs s hm), Option.bind_some, hdr, legsD]
      dsimp only
      by_cases h0 : (legD s).2 = 0
      · rw [if_pos h0, if_pos h0, if_pos (by omega), w64s i (by omega)]
        exact legs_l0' us hu hs (d - 1) k (i + 1) _ (by omega) (by omega) (by rw [List.length_append, List.length_singleton]; omega) (by omega)
      · rw [if_neg h0, if_neg h0]
    · rw [if_neg (by omega), List.drop_eq_nil_of_le (by omega)]
      rfl
theorem legs_eq (v : ByteArray) (hv : v.size ≤ 1000000000) : entry_legs.f (v.size + 10) v = some (legsV v) := by
  unfold entry_legs.f legsV
  rw [unpack_eq v hv, Option.bind_some]
  by_cases hc : (unpackS v.data.toList).2 = 0
  case neg => rw [if_neg hc, if_neg hc]
  rw [if_pos hc, if_pos hc]
  obtain ⟨h1, h2⟩ := unpack_sizes hc
  rw [size_list] at h1 h2
  have := legs_l0' (unpackS v.data.toList).1 (by omega) (fun s hs => Nat.le_trans (h2 s hs) hv) (unpackS v.data.toList).1.length (v.size + 10) 0 [] rfl (by omega) (by simp) (by omega)
  rw [List.drop_zero] at this
  exact this
theorem rlegs_ev : ∀ (us : List ByteArray) (acc : List S46), (∀ s ∈ us, s.size ≤ 1000000) → Ev (fun k => rlegsGo k us acc) (legsD us acc)
  | [], acc, _ => ⟨0, fun k _ => rfl⟩
  | s :: r, acc, h => by
    obtain ⟨K1, e1⟩ := rleg_taken s (h s List.mem_cons_self)
    obtain ⟨K2, e2⟩ := rlegs_ev r (acc ++ [(legD s).1]) (fun t ht => h t (List.mem_cons_of_mem _ ht))
    refine ⟨K1 + K2, fun k hk => ?_⟩
    have g1 : corebankref19_taken.f k s = _ := e1 k (by omega)
    have g2 : rlegsGo k r (acc ++ [(legD s).1]) = _ := e2 k (by omega)
    show rlegsGo k (s :: r) acc = _
    rw [rlegsGo, g1, Option.bind_some, legsD]
    dsimp only
    by_cases h0 : (legD s).2 = 0
    · rw [if_pos h0, if_pos h0]
      exact g2
    · rw [if_neg h0, if_neg h0]
theorem rlegsF_ev (v : ByteArray) (hv : v.size ≤ 1000000) : Ev (fun k => rlegsF k v) (legsV v) := by
  obtain ⟨K1, e1⟩ := runpack_ev v (by omega)
  by_cases hc : (unpackS v.data.toList).2 = 0
  · obtain ⟨h1, h2⟩ := unpack_sizes hc
    rw [size_list] at h1 h2
    obtain ⟨K2, e2⟩ := rlegs_ev (unpackS v.data.toList).1 [] (fun s hs => Nat.le_trans (h2 s hs) hv)
    refine ⟨K1 + K2, fun k hk => ?_⟩
    have g1 : corebankref07_Unpack.f k v = _ := e1 k (by omega)
    have g2 : rlegsGo k (unpackS v.data.toList).1 [] = _ := e2 k (by omega)
    show rlegsF k v = _
    unfold rlegsF legsV
    rw [g1, Option.bind_some, if_pos hc, if_pos hc, if_pos (by omega)]
    exact g2
  · refine ⟨K1, fun k hk => ?_⟩
    have g1 : corebankref07_Unpack.f k v = _ := e1 k (by omega)
    show rlegsF k v = _
    unfold rlegsF legsV
    rw [g1, Option.bind_some, if_neg hc, if_neg hc]
def decN (s t v : ByteArray) : Sum Int (List Int) → EntR
  | .inl x => decZ x
  | .inr [a, b, c, d, e, f] => if (legsV v).2 = 0 then (a, b, c, d, e, f, s, t, (legsV v).1, 0, 0) else decZ (legsV v).2
  | .inr _ => decZ 25
def decE9 : List ByteArray → EntR
  | [a, b, c, d, e, f, s, t, v] => decN s t v (goS [a, b, c, d, e, f] [])
  | _ => decZ 25
/-- What Decode answers. -/
def decE (x : ByteArray) : EntR := if (unpackS x.data.toList).2 = 0 then decE9 (unpackS x.data.toList).1 else decZ (unpackS x.data.toList).2
theorem decE9_ne {l : List ByteArray} (h : l.length ≠ 9) : decE9 l = decZ 25 := by
  unfold decE9
  split
  · simp at h
  · rfl
theorem six {a b c d e f : ByteArray} {xs : List Int} (h : goS [a, b, c, d, e, f] [] = .inr xs) : ∃ x0 x1 x2 x3 x4 x5, xs = [x0, x1, x2, x3, x4, x5] := by
  have hl := goS_len _ _ _ h
  simp only [List.length_cons, List.length_nil] at hl
  match xs, hl with
  | [x0, x1, x2, x3, x4, x5], _ => exact ⟨x0, x1, x2, x3, x4, x5, rfl⟩
theorem dec_eq (x : ByteArray) (hx : x.size ≤ 1000000000) : entry_Decode.f x = some (decE x) := by
  unfold entry_Decode.f decE
  rw [unpack_eq x hx, Option.bind_some]
  by_cases hc : (unpackS x.data.toList).2 = 0
  case neg => rw [if_neg hc, if_neg hc]
  rw [if_pos hc, if_pos hc]
  obtain ⟨-, hs⟩ := unpack_sizes hc
  rw [size_list] at hs
  generalize (unpackS x.data.toList).1 = l at hs ⊢
  by_cases h9 : l.length = 9
  case neg => rw [decAll_ne h9, decE9_ne h9]
  obtain ⟨a, b, c, d, e, f, s, t, v, rfl⟩ := nine h9
  unfold decAll decE9
  dsimp only
  have hv := hs v (by simp)
  rw [goS_eq _ _ (fun u hu => by
    have := hs u (by simp only [List.mem_cons, List.not_mem_nil, or_false] at hu ⊢; rcases hu with rfl | rfl | rfl | rfl | rfl | rfl <;> simp)
    omega), Option.bind_some]
  cases hg : goS [a, b, c, d, e, f] [] with
  | inl y => rfl
  | inr xs =>
    obtain ⟨x0, x1, x2, x3, x4, x5, rfl⟩ := six hg
    unfold decFin decN
    dsimp only
    rw [legs_eq v (by omega), Option.bind_some]
    by_cases h0 : (legsV v).2 = 0
    · rw [if_pos h0, if_pos h0]
    · rw [if_neg h0, if_neg h0]
theorem rdec_ev (x : ByteArray) (hx : x.size ≤ 1000000) : Ev (fun k => corebankref19_Decode.f k x) (decE x) := by
  obtain ⟨K, hK⟩ := runpack_ev x (by omega)
  by_cases hc : (unpackS x.data.toList).2 = 0
  case neg =>
    refine ⟨K, fun k hk => ?_⟩
    have g0 : corebankref07_Unpack.f k x = _ := hK k (by omega)
    show corebankref19_Decode.f k x = _
    unfold corebankref19_Decode.f decE
    rw [g0, Option.bind_some, if_neg hc, if_neg hc]
  obtain ⟨-, hs⟩ := unpack_sizes hc
  rw [size_list] at hs
  obtain ⟨l, hl⟩ : ∃ l, (unpackS x.data.toList).1 = l := ⟨_, rfl⟩
  rw [hl] at hs
  by_cases h9 : l.length = 9
  case neg =>
    refine ⟨K, fun k hk => ?_⟩
    have g0 : corebankref07_Unpack.f k x = _ := hK k (by omega)
    show corebankref19_Decode.f k x = _
    unfold corebankref19_Decode.f decE
    rw [g0, Option.bind_some, if_pos hc, if_pos hc, hl, rdecAll_ne h9, decE9_ne h9]
  obtain ⟨a, b, c, d, e, f, s, t, v, rfl⟩ := nine h9
  have hv := hs v (by simp)
  obtain ⟨K2, hK2⟩ := rlegsF_ev v (by omega)
  refine ⟨K + K2 + 2000000, fun k hk => ?_⟩
  have g0 : corebankref07_Unpack.f k x = _ := hK k (by omega)
  have g2 : rlegsF k v = _ := hK2 k (by omega)
  show corebankref19_Decode.f k x = _
  unfold corebankref19_Decode.f decE
  rw [g0, Option.bind_some, if_pos hc, if_pos hc, hl]
  unfold rdecAll decE9
  dsimp only
  rw [rgoS_eq k 1000000 (by omega) (by omega) _ _ (fun u hu => by
    have := hs u (by simp only [List.mem_cons, List.not_mem_nil, or_false] at hu ⊢; rcases hu with rfl | rfl | rfl | rfl | rfl | rfl <;> simp)
    omega), Option.bind_some]
  cases hg : goS [a, b, c, d, e, f] [] with
  | inl y => rfl
  | inr xs =>
    obtain ⟨x0, x1, x2, x3, x4, x5, rfl⟩ := six hg
    unfold rdecFin decN
    dsimp only
    rw [g2, Option.bind_some]
    by_cases h0 : (legsV v).2 = 0
    · rw [if_pos h0, if_pos h0]
    · rw [if_neg h0, if_neg h0]
theorem eq_same (a b : List S46) : ∀ (k : Nat) (i : Int), api_Leg.l0 k a b (a.length : Int) i = corebankref19_SameLegs.l0 k a b i
  | 0, i => rfl
  | k + 1, i => by
    simp only [api_Leg.l0, corebankref19_SameLegs.l0]
    by_cases h : i < (a.length : Int)
    · rw [if_pos h, if_pos h]
      by_cases h0 : 0 ≤ i
      · rw [if_pos h0, if_pos h0]
        by_cases hb : i < (b.length : Int)
        · rw [if_pos hb, if_pos hb]
          split
          · rfl
          · exact eq_same a b k _
        · rw [if_neg hb, if_neg hb, if_pos h]
      · rw [if_neg h0, if_neg h0, if_pos h]
    · rw [if_neg h, if_neg h]
theorem eql_same (k : Nat) (a b : List S46) : api_Leg.f k a b = corebankref19_SameLegs.f k a b := by
  unfold api_Leg.f corebankref19_SameLegs.f
  split
  · exact eq_same a b k 0
  · rfl
theorem sameL_some (a b : List S46) (hl : a.length = b.length) (ha : a.length ≤ 1000000) : ∀ (d i : Nat), a.length - i = d → i ≤ a.length → ∃ v, ∀ k, d + 1 ≤ k → corebankref19_SameLegs.l0 k a b (i : Int) = some v
  | d, i, hd, hi => by
    by_cases h : i < a.length
    · obtain ⟨v, hv⟩ := sameL_some a b hl ha (d - 1) (i + 1) (by omega) (by omega)
      by_cases hc : (!(((rd_T46 a (i : Int)).f0) == ((rd_T46 b (i : Int)).f0)) || (!(((rd_T46 a (i : Int)).f1) == ((rd_T46 b (i : Int)).f1)) || (!((((rd_T46 a (i : Int)).f2).toList) == (((rd_T46 b (i : Int)).f2).toList))))) = true
      · refine ⟨false, fun k hk => ?_⟩
        obtain ⟨k, rfl⟩ : ∃ q, k = q + 1 := ⟨k - 1, by omega⟩
        simp only [corebankref19_SameLegs.l0]
        rw [if_pos (by omega), if_pos (by omega), if_pos (by omega), if_pos hc]
      · refine ⟨v, fun k hk => ?_⟩
        obtain ⟨k, rfl⟩ : ∃ q, k = q + 1 := ⟨k - 1, by omega⟩
        simp only [corebankref19_SameLegs.l0]
        rw [if_pos (by omega), if_pos (by omega), if_pos (by omega), if_neg hc, w64s i (by omega)]
        exact hv k (by omega)
    · refine ⟨true, fun k hk => ?_⟩
      obtain ⟨k, rfl⟩ : ∃ q, k = q + 1 := ⟨k - 1, by omega⟩
      simp only [corebankref19_SameLegs.l0]
      rw [if_neg (by omega)]
  termination_by d => d
theorem sameL_val (a b : List S46) (ha : a.length ≤ 1000000) : ∃ v, ∀ k, a.length + 1 ≤ k → corebankref19_SameLegs.f k a b = some v := by
  by_cases hl : (a.length : Int) = (b.length : Int)
  · obtain ⟨v, hv⟩ := sameL_some a b (by omega) ha a.length 0 rfl (by omega)
    refine ⟨v, fun k hk => ?_⟩
    unfold corebankref19_SameLegs.f
    rw [if_pos hl]
    exact hv k hk
  · refine ⟨false, fun k _ => ?_⟩
    unfold corebankref19_SameLegs.f
    rw [if_neg hl]
theorem same_eq (k : Nat) (x y : S25) : entry_Same.f k x.f0 x.f1 x.f2 x.f3 x.f4 x.f5 x.f6 x.f7 x.f8 x.f9 y.f0 y.f1 y.f2 y.f3 y.f4 y.f5 y.f6 y.f7 y.f8 y.f9 = corebankref19_Same.f k x.f0 x.f1 x.f2 x.f3 x.f4 x.f5 x.f6 x.f7 x.f8 x.f9 y.f0 y.f1 y.f2 y.f3 y.f4 y.f5 y.f6 y.f7 y.f8 y.f9 := by
  unfold entry_Same.f corebankref19_Same.f
  rw [eql_same]
theorem same_val (x y : S25) (hx : x.f8.length ≤ 1000000) : ∃ v, ∀ k, x.f8.length + 1 ≤ k → corebankref19_Same.f k x.f0 x.f1 x.f2 x.f3 x.f4 x.f5 x.f6 x.f7 x.f8 x.f9 y.f0 y.f1 y.f2 y.f3 y.f4 y.f5 y.f6 y.f7 y.f8 y.f9 = some v := by
  obtain ⟨v, hv⟩ := sameL_val x.f8 y.f8 hx
  by_cases c : x.f0 = y.f0 ∧ x.f1 = y.f1 ∧ x.f2 = y.f2 ∧ x.f3 = y.f3 ∧ x.f4 = y.f4 ∧ x.f5 = y.f5 ∧ x.f6.toList = y.f6.toList ∧ x.f7.toList = y.f7.toList ∧ x.f9 = y.f9
  · obtain ⟨c0, c1, c2, c3, c4, c5, c6, c7, c9⟩ := c
    refine ⟨v, fun k hk => ?_⟩
    unfold corebankref19_Same.f
    rw [if_pos c0, if_pos c1, if_pos c2, if_pos c3, if_pos c4, if_pos c5, if_pos c6, if_pos c7, if_pos c9, hv k hk]
    rfl
  · refine ⟨false, fun k hk => ?_⟩
    unfold corebankref19_Same.f
    by_cases c0 : x.f0 = y.f0
    case neg => rw [if_neg c0]
    rw [if_pos c0]
    by_cases c1 : x.f1 = y.f1
    case neg => rw [if_neg c1]
    rw [if_pos c1]
    by_cases c2 : x.f2 = y.f2
    case neg => rw [if_neg c2]
    rw [if_pos c2]
    by_cases c3 : x.f3 = y.f3
    case neg => rw [if_neg c3]
    rw [if_pos c3]
    by_cases c4 : x.f4 = y.f4
    case neg => rw [if_neg c4]
    rw [if_pos c4]
    by_cases c5 : x.f5 = y.f5
    case neg => rw [if_neg c5]
    rw [if_pos c5]
    by_cases c6 : x.f6.toList = y.f6.toList
    case neg => rw [if_neg c6]
    rw [if_pos c6]
    by_cases c7 : x.f7.toList = y.f7.toList
    case neg => rw [if_neg c7]
    rw [if_pos c7, if_neg (fun c9 => c ⟨c0, c1, c2, c3, c4, c5, c6, c7, c9⟩)]
end Go.Proofs.YtkfgnjdchnpjeaaDoor.Pure

end
