/- WirCe: what the law EntryCodes asks of it. -/
import Derived.Test.YtkfgnjdchnpjeaaDoorEoWirBe
import Derived.Test.YtkfgnjdchnpjeaaDoorEoQDx15
namespace Go.Proofs.YtkfgnjdchnpjeaaDoor.Pure
open Go.RowKit Go.Proofs.YtkfgnjdchnpjeaaDoor Go.Proofs.YtkfgnjdchnpjeaaDoor.QD Go.Proofs.YtkfgnjdchnpjeaaDoorW.PrintWords
set_option linter.unusedVariables false
set_option linter.unusedSimpArgs false

def firstS (l : List UInt8) : ByteArray × Int × Int := match lenL l with
  | none => (⟨#[]⟩, 0, 2)
  | some (n, p) => if l.length < p + n then (⟨#[]⟩, 0, 24) else (⟨((l.take (p + n)).drop p).toArray⟩, ((p + n : Nat) : Int), 0)
theorem first_scan (x : ByteArray) (hx : x.size ≤ 281474976710656) (b : List UInt8) : ∀ (a : List UInt8) (k i : Nat), x.data.toList.drop i = a ++ 58 :: b → (58 : UInt8) ∉ a → i ≤ x.size →
    corebankref07_first.l0 (k + a.length + 1) x (i : Int) = corebankref07_first.j1 k x ((i + a.length : Nat) : Int) := by
  intro a
  induction a with
  | nil =>
    intro k i he _ hi
    have hlt : i < x.size := by
      apply Classical.byContradiction
      intro h
      rw [show i = x.size by omega, drop_end] at he
      simp at he
    obtain ⟨c, hdr, hbt, hc⟩ := bt_drop x i hlt
    rw [hdr] at he
    have e58 : c = 58 := (List.cons.inj he).1
    have h58 : (c.toNat : Int) = 58 := by rw [e58]; rfl
    simp only [corebankref07_first.l0, List.length_nil, Nat.add_zero]
    rw [if_pos (by omega), if_pos (by omega), hbt, if_pos h58]
  | cons c0 r ih =>
    intro k i he hn hi
    have hlt : i < x.size := by
      apply Classical.byContradiction
      intro h
      rw [show i = x.size by omega, drop_end] at he
      simp at he
    obtain ⟨c, hdr, hbt, hc⟩ := bt_drop x i hlt
    rw [hdr, List.cons_append] at he
    obtain ⟨e1, e2⟩ := List.cons.inj he
    have h58 : ¬ (c.toNat : Int) = 58 := fun e => hn (by
      have e3 : (58 : UInt8).toNat = 58 := rfl
      have : c = 58 := UInt8.toNat.inj (by omega)
      rw [← this, e1]
      exact List.mem_cons_self)
    have ih' := ih k (i + 1) e2 (fun m => hn (List.mem_cons_of_mem _ m)) (by omega)
    rw [List.length_cons, show k + (r.length + 1) + 1 = (k + r.length + 1) + 1 by omega]
    generalize k + r.length + 1 = K at ih' ⊢
    simp only [corebankref07_first.l0]
    rw [if_pos (by omega), if_pos (by omega), hbt, if_neg h58, w64s i (by omega), ih', show i + 1 + r.length = i + (r.length + 1) by omega]
theorem first_end (x : ByteArray) (hx : x.size ≤ 281474976710656) : ∀ (d k i : Nat), x.size - i = d → i ≤ x.size → (58 : UInt8) ∉ x.data.toList.drop i →
    corebankref07_first.l0 (k + d + 1) x (i : Int) = corebankref07_first.j1 k x (x.size : Int) := by
  intro d
  induction d with
  | zero =>
    intro k i hd hi _
    obtain rfl : i = x.size := by omega
    simp only [corebankref07_first.l0]
    rw [if_neg (by omega)]
  | succ d ih =>
    intro k i hd hi hn
    obtain ⟨c, hdr, hbt, hc⟩ := bt_drop x i (by omega)
    rw [hdr] at hn
    have h58 : ¬ (c.toNat : Int) = 58 := fun e => hn (by
      have e3 : (58 : UInt8).toNat = 58 := rfl
      have : c = 58 := UInt8.toNat.inj (by omega)
      rw [this]
      exact List.mem_cons_self)
    have ih' := ih k (i + 1) (by omega) (by omega) (fun m => hn (List.mem_cons_of_mem _ m))
    rw [show k + (d + 1) + 1 = (k + d + 1) + 1 by omega]
    generalize k + d + 1 = K at ih' ⊢
    simp only [corebankref07_first.l0]
    rw [if_pos (by omega), if_pos (by omega), hbt, if_neg h58, w64s i (by omega)]
    exact ih'
theorem first_ev (x : ByteArray) (hx : x.size ≤ 1000000000) : Ev (fun k => corebankref07_first.f k x) (firstS x.data.toList) := by
  have hz := size_list x
  refine ⟨2 * x.size + 20, fun k hk => ?_⟩
  show corebankref07_first.f k x = _
  unfold corebankref07_first.f
  by_cases hc : (58 : UInt8) ∈ x.data.toList
  · obtain ⟨a, b, hl, ha⟩ := List.eq_append_cons_of_mem hc
    have hla : x.size = a.length + (b.length + 1) := by rw [← hz, hl]; simp
    obtain ⟨m, rfl⟩ : ∃ m, k = (m + 1 + 1 + 1) + a.length + 1 := ⟨k - a.length - 4, by omega⟩
    have h0 := first_scan x (by omega) b a (m + 1 + 1 + 1) 0 (by rw [List.drop_zero]; exact hl) ha (by omega)
    refine h0.trans ?_
    rw [Nat.zero_add]
    have htk : (x.extract 0 a.length).data.toList = a := by rw [extract_list, hl]; simp
    have hts : (x.extract 0 a.length).size = a.length := by rw [← size_list, htk]
    simp only [corebankref07_first.j1, corebankref07_first.j2, corebankref07_first.j3]
    rw [if_neg (by omega)]
    by_cases h6 : (a.length : Int) > 6
    · rw [decide_eq_true h6, if_pos rfl]
      unfold firstS
      rw [hl, lenL_none ha (fun e => by have := nat_short e.1 e.2; omega)]
    · rw [decide_eq_false h6, if_neg (by simp), if_pos (by omega), if_pos (by omega), Int.toNat_natCast, rtake_ev _ (by omega) _ (by omega), htk]
      simp only [Option.bind_some]
      by_cases hg : natL a = true ∧ valL 0 a ≤ 16384
      · have ht := takeR_nat hg.1 hg.2
        have hlen := lenL_mk a b hg.1 hg.2
        rw [ht]
        simp only [if_true]
        rw [if_neg (show ¬ (valL 0 a : Int) < 0 by omega), decide_eq_false (show ¬ (valL 0 a : Int) > 16384 by omega), if_neg (by simp)]
        unfold firstS
        rw [hl, hlen]
        simp only
        have e1 : wrap64 (wrap64 ((x.size : Int) - (a.length : Int)) - 1) = (b.length : Int) := by
          rw [w64 (n := (x.size : Int) - (a.length : Int)) (by omega) (by omega), w64 (by omega) (by omega)]
          omega
        have e2 : wrap64 ((a.length : Int) + 1) = ((a.length + 1 : Nat) : Int) := w64s _ (by omega)
        have e3 : wrap64 (((a.length + 1 : Nat) : Int) + (valL 0 a : Int)) = ((a.length + 1 + valL 0 a : Nat) : Int) := by rw [w64 (by omega) (by omega)]; omega
        rw [e1, e2, e3]
        have hll : (a ++ 58 :: b).length = a.length + (b.length + 1) := by simp
        by_cases hs : (b.length : Int) < (valL 0 a : Int)
        · have hs2 : (a ++ 58 :: b).length < a.length + 1 + valL 0 a := by rw [hll]; omega
          rw [if_pos hs, if_pos hs2]
        · have hs2 : ¬ (a ++ 58 :: b).length < a.length + 1 + valL 0 a := by rw [hll]; omega
          rw [if_neg hs, if_neg hs2, if_pos (by omega), if_pos (by omega), if_pos (by omega), Int.toNat_natCast, Int.toNat_natCast]
          congr 2
          apply list_eq
          rw [extract_list, hl]
      · have hn2 : (takeR a).2 = 0 → ((takeR a).1 < 0 ∨ (takeR a).1 > 16384) := fun e => by
          apply Classical.byContradiction
          intro hh
          exact hg (nat_of_takeR (v := (takeR a).1) (by rw [← e]) (by omega) (by omega))
        have hans : firstS x.data.toList = (⟨#[]⟩, 0, 2) := by
          unfold firstS
          rw [hl, lenL_none ha hg]
        rw [hans]
        by_cases h2 : (takeR a).2 = 0
        · rw [if_pos h2]
          rcases hn2 h2 with h3 | h3
          · rw [if_pos h3, if_pos trivial]
          · by_cases h4 : (takeR a).1 < 0
            · rw [if_pos h4, if_pos trivial]
            · rw [if_neg h4, decide_eq_true h3, if_pos rfl]
        · rw [if_neg h2, if_pos trivial]
  · obtain ⟨m, rfl⟩ : ∃ m, k = (m + 1 + 1) + x.size + 1 := ⟨k - x.size - 3, by omega⟩
    have h0 := first_end x (by omega) x.size (m + 1 + 1) 0 (by omega) (by omega) (by rw [List.drop_zero]; exact hc)
    refine h0.trans ?_
    simp only [corebankref07_first.j1, corebankref07_first.j2]
    rw [if_pos trivial, if_pos trivial]
    unfold firstS
    rw [lenL_no hc]
theorem runpack_l0 (x : ByteArray) (hx : x.size ≤ 1000000000) : ∀ (f i : Nat) (acc : List ByteArray), x.size - i < f → i ≤ x.size → acc.length + (x.size - i) ≤ 2000000000 →
    Ev (fun k => corebankref07_Unpack.l0 k x acc (i : Int)) (unpkS f (x.data.toList.drop i) acc) := by
  have hz := size_list x
  intro f
  induction f with
  | zero => intro i acc hf _ _; omega
  | succ f ih =>
    intro i acc hf hi hacc
    by_cases hend : i = x.size
    · refine ⟨1, fun k hk => ?_⟩
      obtain ⟨k, rfl⟩ : ∃ m, k = m + 1 := ⟨k - 1, by omega⟩
      show corebankref07_Unpack.l0 (k + 1) x acc (i : Int) = _
      simp only [corebankref07_Unpack.l0, unpkS]
      rw [if_neg (by omega), hend, drop_end, if_pos rfl]
    · have hex : (x.extract i x.size).data.toList = x.data.toList.drop i := by
        rw [extract_list, List.take_of_length_le (by omega)]
      have hes : (x.extract i x.size).size = x.size - i := by rw [← size_list, hex, List.length_drop, hz]
      obtain ⟨K1, h1⟩ := first_ev (x.extract i x.size) (by omega)
      have hne : x.data.toList.drop i ≠ [] := by
        intro e
        have := congrArg List.length e
        simp at this
        omega
      have hdl : (x.data.toList.drop i).length = x.size - i := by rw [List.length_drop, hz]
      rw [hex] at h1
      have step : ∀ k, K1 ≤ k → corebankref07_Unpack.l0 (k + 1) x acc (i : Int) = (if (firstS (x.data.toList.drop i)).2.2 = 0 then (if acc.length < 8796093022208 then corebankref07_Unpack.l0 k x (acc ++ [(firstS (x.data.toList.drop i)).1]) (wrap64 ((i : Int) + (firstS (x.data.toList.drop i)).2.1)) else none) else some ([], (firstS (x.data.toList.drop i)).2.2)) := by
        intro k hk
        have e1 : corebankref07_first.f k (x.extract i x.size) = _ := h1 k hk
        simp only [corebankref07_Unpack.l0]
        rw [if_pos (by omega), if_pos (by omega), if_pos (by omega), Int.toNat_natCast, e1]
        simp only [Option.bind_some]
      cases hlen : lenL (x.data.toList.drop i) with
      | none =>
        have hf : firstS (x.data.toList.drop i) = (⟨#[]⟩, 0, 2) := by unfold firstS; rw [hlen]
        refine ⟨K1 + 1, fun k hk => ?_⟩
        obtain ⟨k, rfl⟩ : ∃ m, k = m + 1 := ⟨k - 1, by omega⟩
        show corebankref07_Unpack.l0 (k + 1) x acc (i : Int) = _
        rw [step k (by omega), hf]
        simp only [unpkS]
        rw [if_neg hne, hlen]
        rfl
      | some y =>
        obtain ⟨n, p⟩ := y
        obtain ⟨b1, b2, b3⟩ := lenL_bound hlen
        by_cases hs : (x.data.toList.drop i).length < p + n
        · have hf : firstS (x.data.toList.drop i) = (⟨#[]⟩, 0, 24) := by unfold firstS; rw [hlen]; simp only; rw [if_pos hs]
          refine ⟨K1 + 1, fun k hk => ?_⟩
          obtain ⟨k, rfl⟩ : ∃ m, k = m + 1 := ⟨k - 1, by omega⟩
          show corebankref07_Unpack.l0 (k + 1) x acc (i : Int) = _
          rw [step k (by omega), hf]
          simp only [unpkS]
          rw [if_neg hne, hlen]
          simp only
          rw [if_pos hs]
          rfl
        · have hf : firstS (x.data.toList.drop i) = (⟨(((x.data.toList.drop i).take (p + n)).drop p).toArray⟩, ((p + n : Nat) : Int), 0) := by unfold firstS; rw [hlen]; simp only; rw [if_neg hs]
          obtain ⟨K2, h2⟩ := ih (i + (p + n)) (acc ++ [⟨(((x.data.toList.drop i).take (p + n)).drop p).toArray⟩]) (by omega) (by omega) (by simp; omega)
          refine ⟨K1 + K2 + 1, fun k hk => ?_⟩
          obtain ⟨k, rfl⟩ : ∃ m, k = m + 1 := ⟨k - 1, by omega⟩
          show corebankref07_Unpack.l0 (k + 1) x acc (i : Int) = _
          rw [step k (by omega), hf]
          simp only [unpkS, if_true]
          rw [if_neg hne, hlen]
          simp only
          rw [if_neg hs, if_pos (by omega), List.drop_drop]
          have e : wrap64 ((i : Int) + ((p + n : Nat) : Int)) = ((i + (p + n) : Nat) : Int) := by rw [w64 (by omega) (by omega)]; omega
          rw [e]
          exact h2 k (by omega)
theorem runpack_ev (x : ByteArray) (hx : x.size ≤ 1000000000) : Ev (fun k => corebankref07_Unpack.f k x) (unpackS x.data.toList) := by
  have hz := size_list x
  have h := runpack_l0 x hx (x.size + 1) 0 [] (by omega) (by omega) (by simp; omega)
  obtain ⟨K, hK⟩ := h
  refine ⟨K, fun k hk => ?_⟩
  have := hK k hk
  rw [List.drop_zero] at this
  unfold unpackS
  rw [hz]
  exact this
theorem rdOf_drop {α : Type} (d : α) (l : List α) (i : Nat) (h : i < l.length) : ∃ s, l.drop i = s :: l.drop (i + 1) ∧ rdOf d l (i : Int) = s ∧ s ∈ l := by
  refine ⟨l[i], List.drop_eq_getElem_cons h, ?_, List.getElem_mem h⟩
  unfold rdOf
  simp [List.getD, h]
theorem mk_size (l : List UInt8) : (⟨l.toArray⟩ : ByteArray).size = l.length := by
  show l.toArray.size = l.length
  rw [List.size_toArray]
theorem rpack_l0 (l : List ByteArray) (hl : l.length ≤ 5000) (hs : ∀ s ∈ l, s.size ≤ 140737488351232) : ∀ (d i : Nat) (x : ByteArray), l.length - i = d → i ≤ l.length → x.size ≤ i * 140737488351300 →
    Ev (fun k => corebankref07_Pack.l0 k l x (i : Int)) ⟨(x.data.toList ++ packL (l.drop i)).toArray⟩ := by
  intro d
  induction d with
  | zero =>
    intro i x hd hi hx
    refine ⟨1, fun k hk => ?_⟩
    obtain ⟨k, rfl⟩ : ∃ m, k = m + 1 := ⟨k - 1, by omega⟩
    obtain rfl : i = l.length := by omega
    show corebankref07_Pack.l0 (k + 1) l x _ = _
    simp only [corebankref07_Pack.l0]
    rw [if_neg (by omega), List.drop_length]
    simp [packL]
  | succ d ih =>
    intro i x hd hi hx
    obtain ⟨s, hdr, hrd, hm⟩ := rdOf_drop ByteArray.empty l i (by omega)
    have h1 := hs s hm
    obtain ⟨K1, hK1⟩ := int_ev (s.size : Int) ⟨by omega, by omega⟩
    have hil := Lib.itoa_length_le (s.size : Int) (by omega) (by omega)
    have his : (itoaS (s.size : Int)).size = (Lib.itoa (s.size : Int)).length := mk_size _
    have z1 : (x ++ itoaS (s.size : Int)).size = x.size + (itoaS (s.size : Int)).size := ByteArray.size_append
    have z2 : ((x ++ itoaS (s.size : Int)) ++ (⟨#[58]⟩ : ByteArray)).size = (x ++ itoaS (s.size : Int)).size + 1 := ByteArray.size_append
    have z3 : (((x ++ itoaS (s.size : Int)) ++ (⟨#[58]⟩ : ByteArray)) ++ s).size = ((x ++ itoaS (s.size : Int)) ++ (⟨#[58]⟩ : ByteArray)).size + s.size := ByteArray.size_append
    obtain ⟨K2, hK2⟩ := ih (i + 1) (((x ++ itoaS (s.size : Int)) ++ (⟨#[58]⟩ : ByteArray)) ++ s) (by omega) (by omega) (by omega)
    refine ⟨K1 + K2 + 1, fun k hk => ?_⟩
    obtain ⟨k, rfl⟩ : ∃ m, k = m + 1 := ⟨k - 1, by omega⟩
    have e1 : corebankref07_Int.f k (s.size : Int) = _ := hK1 k (by omega)
    have e2 : corebankref07_Pack.l0 k l (((x ++ itoaS (s.size : Int)) ++ (⟨#[58]⟩ : ByteArray)) ++ s) ((i + 1 : Nat) : Int) = _ := hK2 k (by omega)
    show corebankref07_Pack.l0 (k + 1) l x _ = _
    simp only [corebankref07_Pack.l0]
    rw [if_pos (by omega), if_pos (by omega), hrd, e1]
    simp only [Option.bind_some]
    rw [if_pos (by omega), if_pos (by omega), if_pos (by omega), w64s i (by omega), e2, hdr]
    congr 2
    rw [app_data, app_data, app_data]
    simp only [packL]
    have ei : (itoaS (s.size : Int)).data.toList = Lib.itoa (s.size : Int) := rfl
    rw [ei]
    simp
def packS (l : List ByteArray) : ByteArray := ⟨(packL l).toArray⟩
theorem rpack_ev (l : List ByteArray) (hl : l.length ≤ 5000) (hs : ∀ s ∈ l, s.size ≤ 140737488351232) : Ev (fun k => corebankref07_Pack.f k l) (packS l) := by
  obtain ⟨K, hK⟩ := rpack_l0 l hl hs l.length 0 ⟨#[]⟩ (by omega) (by omega) (by show (0 : Nat) ≤ _; omega)
  exact ⟨K, fun k hk => by
    have := hK k hk
    rw [List.drop_zero] at this
    exact this⟩
end Go.Proofs.YtkfgnjdchnpjeaaDoor.Pure

