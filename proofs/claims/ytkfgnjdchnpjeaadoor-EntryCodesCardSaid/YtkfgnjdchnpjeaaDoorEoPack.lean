/- Pack: what the law EntryCodes asks of it. -/
import Derived.Test.YtkfgnjdchnpjeaaDoorEoWire
namespace Go.Proofs.YtkfgnjdchnpjeaaDoor
open Go.RowKit Go.Proofs.YtkfgnjdchnpjeaaDoorW.PrintWords
set_option linter.unusedVariables false
set_option linter.unusedSimpArgs false

/-- The encoding of texts. -/
def packL : List ByteArray → List UInt8
  | [] => []
  | s :: r => Lib.itoa (s.size : Int) ++ (58 :: (s.data.toList ++ packL r))
theorem packL_append : ∀ (a b : List ByteArray), packL (a ++ b) = packL a ++ packL b
  | [], b => rfl
  | s :: r, b => by simp [packL, packL_append r b]
theorem packL_succ (l : List ByteArray) (k : Nat) (h : k < l.length) : packL (l.take (k + 1)) = packL (l.take k) ++ Lib.itoa ((l[k]).size : Int) ++ [58] ++ (l[k]).data.toList := by
  rw [List.take_succ_eq_append_getElem h, packL_append]
  simp [packL]
theorem packL_le (l : List ByteArray) (k : Nat) : (packL (l.take k)).length ≤ (packL l).length := by
  have : packL l = packL (l.take k) ++ packL (l.drop k) := by rw [← packL_append, List.take_append_drop]
  rw [this]
  simp
theorem packL_len : ∀ l : List ByteArray, l.length ≤ (packL l).length
  | [] => by simp
  | s :: r => by
    have := packL_len r
    simp only [packL, List.length_append, List.length_cons]
    omega
theorem info5 : (Tryd.prog.info? 5).map (fun i => (i.zero, i.size, i.bytes)) = some (some (.int .u8 0), 1, 1) := by kernel_rfl
theorem cells_app (a b : List UInt8) : Lib.byteCells (a ++ b) = Lib.byteCells a ++ Lib.byteCells b := by simp [Lib.byteCells]
theorem rdOf_at (l : List ByteArray) (k : Nat) (h : k < l.length) : rdOf ByteArray.empty l (k : Int) = l[k] := by
  unfold rdOf
  simp [List.getD, h]
theorem one_new (w : World) (v : Value) : ∀ (j : Nat) (u : Value), [v][j]? = some u → (w.alloc (.cells #[v] 5)).cell? ((⟨w.heap.size, 0, none⟩ : Addr).add j) = some u := by
  intro j u h
  cases j with
  | zero =>
    simp only [List.getElem?_cons_zero, Option.some.injEq] at h
    subst h
    exact cell_of_one (heap_alloc_new w _)
  | succ j => simp at h
theorem one_cell {n : Int} : ∀ u ∈ [Value.int .u8 n], u.oneCell' = true := by
  intro u hu
  simp only [List.mem_singleton] at hu
  subst hu
  rfl
set_option maxRecDepth 100000 in
theorem conv_own (w : World) (v : Value) (l : List UInt8) {b : Nat} (h : w.ownsRow b 5 1 v l.length (Lib.byteCells l)) : (convert 81 9 v).run Tryd.prog w = .ok (.string ⟨l.toArray⟩) w := by
  rcases h.2 with ⟨rfl, h0⟩ | ⟨g, cap, cur, rfl, hb, hg, hn, hc, hs, ht⟩
  · have e0 : l = [] := List.eq_nil_of_length_eq_zero h0
    subst e0
    rfl
  · refine run_convert_bytes_back w 81 9 5 ⟨g, 0, none⟩ cap l Tryd.underlying81 Tryd.underlying5 Tryd.underlying9 (fun j hj => ?_)
    have hc2 := h.cells (g := g) rfl j (.int .u8 (l[j].toNat : Int)) (by simp [Lib.byteCells, hj])
    exact hc2
/-- wire.Pack. -/
def wire_Pack.f (l0 : List ByteArray) : Option ByteArray := if (packL l0).length + 64 ≤ 140737488355328 then some ⟨(packL l0).toArray⟩ else none
set_option maxHeartbeats 4000000 in
set_option maxRecDepth 100000 in
theorem wire_Pack.calls (A0 : Option Addr) (c0 : Nat) (l0 : List ByteArray) (r : ByteArray) (w : World) (hr0 : Kd.C Kd.string w A0 l0.length l0) (_hc0 : l0.length ≤ c0) (HTab_ : TabW w) (h : wire_Pack.f l0 = some r) :
    Calls Tryd.prog 52 #[.slice A0 l0.length c0] w fun e w' => e = .returned (.string r) ∧ Below w.heap.size w w' := by
  unfold wire_Pack.f at h
  split at h
  case isFalse => cases h
  case isTrue hlim =>
  obtain rfl := Option.some.inj h
  have HT := Lib.hid HTab_
  have HR := Lib.hid hr0
  have HL := Lib.hid hlim
  clear h HTab_ hr0 hlim
  obtain ⟨i0, hi, hz0, hz1, hz2⟩ := info_parts info5
  have HI := Lib.hid (And.intro hi (And.intro hz0 (And.intro hz1 hz2)))
  clear hi hz0 hz1 hz2
  go_enter Tryd.func52, Tryd.ntmps52
  go_wp2
  go_loopw [3, 8] (fun vo vi wr => ∃ k : Nat, vi = .int .i64 k ∧ Hid (k ≤ l0.length ∧ wr.ownsRow w.heap.size 5 1 vo (packL (l0.take k)).length (Lib.byteCells (packL (l0.take k))) ∧ Below w.heap.size w wr)) (fun _ vi _ => l0.length - (intOf vi).toNat)
  case atStart => exact ⟨0, rfl, Lib.hid ⟨by omega, ⟨by simp [packL, Lib.byteCells], .inl ⟨rfl, by simp [packL]⟩⟩, Below.refl _ _⟩⟩
  case round =>
    obtain ⟨k, rfl, hh⟩ := hrel
    by_cases hlt : k < l0.length
    · obtain ⟨hk, hown, hbel⟩ := hh.out
      obtain ⟨ad, e1, hcell⟩ := Kd.at_string (Kd.C_below HR.out hbel) (k : Int) (by omega) (by omega)
      cases e1
      rw [rdOf_at _ _ hlt, Int.toNat_natCast] at hcell
      have hsucc := packL_succ l0 k hlt
      have hle := packL_le l0 (k + 1)
      generalize l0[k] = s at hcell hsucc
      have hsz : (packL (l0.take k)).length + (Lib.itoa (s.size : Int)).length + 1 + s.size ≤ (packL l0).length := by
        rw [hsucc] at hle
        have e : s.data.toList.length = s.size := Array.length_toList
        simp only [List.length_append, List.length_singleton, e] at hle
        omega
      have hl2 := HL.out
      have hs1 : (s.size : Int) ≤ 9223372036854775807 := by omega
      have hl1 : (l0.length : Int) ≤ 9223372036854775807 := by
        have := packL_len l0
        omega
      have hlt2 : (k : Int) < (l0.length : Int) := by omega
      have HH := Lib.hid (And.intro hk (And.intro hown (And.intro hbel (And.intro hsucc (And.intro hsz hl2)))))
      clear hk hown hbel hsucc hsz hl2 hh hle
      go_wp2_with (first
        | (go_at_call 71; refine (Tryd.strconv_AppendInt_10 w.heap.size _ (s.size : Int) (by omega) hs1 u3 _ _ HH.out.2.1 HH.out.2.2.1.size (by have := HH.out.2.2.2.2; omega) ((Lib.tabBelow_of_tabIs HT.out.pow).on HH.out.2.2.1)).mono ?_; rintro e w1 ⟨v1, rfl, ho1, hb1, -⟩; have HO1 := Lib.hid ho1; have HB1 := Lib.hid hb1; clear ho1 hb1)
        | (at_builtin; refine wpList_append_own _ rfl (.tmp 16) (.tmp 17) 81 rfl w.heap.size 5 i0 (.int .u8 0) 1 1 Tryd.underlying81 HI.out.1 HI.out.2.1 HI.out.2.2.1 HI.out.2.2.2 rfl (by decide) v1 _ _ rfl (HO1.out.alloc _) ⟨w1.heap.size, 0, none⟩ 1 1 [.int .u8 58] rfl rfl ?c1 ?c2 ?c3 ?c4 ?c5 ?_; (case c1 => exact one_new w1 _); (case c2 => exact one_cell); (case c3 => exact (by have := HH.out.2.2.2.2; unfold maxLen; omega)); (case c4 => exact (by have := HH.out.2.2.2.2; omega)); (case c5 => exact (by have := HH.out.2.2.1.size; have := HB1.out.size; simp; omega)); intro v2 w2 ho2 hg2 _; have HO2 := Lib.hid ho2; have HG2 := Lib.hid hg2; clear ho2 hg2)
        | (at_builtin; refine Lib.wpList_append_own_string _ rfl (.tmp 19) (.tmp 20) 81 9 rfl w.heap.size 5 i0 Tryd.underlying81 Tryd.underlying9 HI.out.1 HI.out.2.1 HI.out.2.2.1 HI.out.2.2.2 v2 _ _ rfl HO2.out s rfl ?d1 ?d2 ?d3 ?_; (case d1 => exact (by have := HH.out.2.2.2.2; unfold maxLen; omega)); (case d2 => exact (by have := HH.out.2.2.2.2; omega)); (case d3 => exact (by have := HH.out.2.2.1.size; have := HB1.out.size; have := HG2.out.size; simp at this; omega)); intro v3 w3 ho3 hg3 _; have HO3 := Lib.hid ho3; have HG3 := Lib.hid hg3; clear ho3 hg3))
      refine ⟨⟨k + 1, by go_num, Lib.hid ⟨by omega, ?_, ?_⟩⟩, by simp [intOf]; omega⟩
      · have h3 := HO3.out
        have e : Lib.byteCells (packL (l0.take (k + 1))) = Lib.byteCells (packL (l0.take k)) ++ Lib.byteCells (Lib.itoa (s.size : Int)) ++ [.int .u8 58] ++ Lib.strCells s := by
          rw [HH.out.2.2.2.1, cells_app, cells_app, cells_app]
          rfl
        have el : (packL (l0.take (k + 1))).length = (packL (l0.take k)).length + (Lib.itoa (s.size : Int)).length + 1 + s.size := by
          have e2 : s.data.toList.length = s.size := Array.length_toList
          rw [HH.out.2.2.2.1]
          simp only [List.length_append, List.length_singleton, e2]
        rw [e, el]
        exact h3
      · have hw1 : Below w.heap.size w w1 := HH.out.2.2.1.trans HB1.out
        have hw2 : Below w.heap.size w w2 := pw_below_grown (below_alloc hw1 _) _ (below_alloc hw1 _).size HG2.out (fun b e => own_base HO1.out b e)
        exact pw_below_grown hw2 _ hw2.size HG3.out (fun b e => own_base HO2.out b e)
    · obtain ⟨hk, hown, hbel⟩ := hh.out
      have hkn : k = l0.length := by omega
      have hl1 : (l0.length : Int) ≤ 9223372036854775807 := by
        have := packL_len l0
        have := HL.out
        omega
      have hlt2 : (l0.length : Int) ≤ (k : Int) := by omega
      rw [hkn, List.take_length] at hown
      have hcv := conv_own wr u3 (packL l0) hown
      have HB := Lib.hid hbel
      clear hk hown hbel hkn hh hlt
      go_wp2
      go_ret
      exact ⟨rfl, HB.out⟩
end Go.Proofs.YtkfgnjdchnpjeaaDoor

