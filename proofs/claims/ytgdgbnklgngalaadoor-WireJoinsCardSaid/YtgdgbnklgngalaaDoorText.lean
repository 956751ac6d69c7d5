/- A text's bytes one by one, and small laws of wrapped numbers. -/
import Derived.Test.YtgdgbnklgngalaaDoorWWords
namespace Go.Proofs.YtgdgbnklgngalaaDoor
open Go.RowKit Go.Proofs.YtgdgbnklgngalaaDoorW.PrintWords
set_option linter.unusedVariables false
set_option linter.unusedSimpArgs false

theorem bt_drop (x : ByteArray) (i : Nat) (h : i < x.size) : ∃ c : UInt8, x.data.toList.drop i = c :: x.data.toList.drop (i + 1) ∧ bt x (i : Int) = (c.toNat : Int) ∧ c.toNat < 256 := by
  have hl : i < x.data.toList.length := by simpa using h
  refine ⟨x.data.toList[i], List.drop_eq_getElem_cons hl, ?_, UInt8.toNat_lt _⟩
  unfold bt
  rw [dif_pos (by simpa using h)]
  simp [ByteArray.getElem_eq_getElem_data]
theorem drop_end (x : ByteArray) : x.data.toList.drop x.size = [] := List.drop_eq_nil_of_le (by rw [Array.length_toList]; exact Nat.le_refl _)
theorem w64 {n : Int} (h0 : -9223372036854775808 ≤ n) (h1 : n ≤ 9223372036854775807) : wrap64 n = n := by unfold wrap64; omega
theorem w64s (i : Nat) (h : i < 9223372036854775807) : wrap64 ((i : Int) + 1) = ((i + 1 : Nat) : Int) := by rw [w64 (by omega) (by omega)]; omega
theorem u64w {n : Int} (h0 : 0 ≤ n) (h1 : n < 18446744073709551616) : IntKind.u64.wrap n = n := by rw [IntKind.wrap_u64]; omega
theorem tmodn {a b : Int} (h : 0 ≤ a) : Int.tmod a b = a % b := Int.tmod_eq_emod_of_nonneg h
theorem tdivn {a b : Int} (h : 0 ≤ a) : Int.tdiv a b = a / b := Int.tdiv_eq_ediv_of_nonneg h
theorem app_data (x y : ByteArray) : (x ++ y).data.toList = x.data.toList ++ y.data.toList := by rw [ByteArray.data_append]; simp
theorem size_list (x : ByteArray) : x.data.toList.length = x.size := Array.length_toList
theorem extract_list (x : ByteArray) (i j : Nat) : (x.extract i j).data.toList = (x.data.toList.take j).drop i := by
  rw [ByteArray.data_extract, Array.toList_extract, List.extract_eq_take_drop]
  rw [List.drop_take]
theorem list_eq {x y : ByteArray} (h : x.data.toList = y.data.toList) : x = y := by
  obtain ⟨a⟩ := x
  obtain ⟨b⟩ := y
  congr 1
  exact Array.toList_inj.1 h
theorem mk_list (x : ByteArray) : (⟨x.data.toList.toArray⟩ : ByteArray) = x := list_eq rfl
theorem toList_eqv (x : ByteArray) : x.toList = x.data.toList := ByteArray.toList_eq x
theorem bt_zero (x : ByteArray) (c : UInt8) (r : List UInt8) (h : x.data.toList = c :: r) : bt x 0 = (c.toNat : Int) := by
  have hs : 0 < x.size := by rw [← size_list, h]; simp
  obtain ⟨d, hd, hb, _⟩ := bt_drop x 0 hs
  rw [List.drop_zero, h] at hd
  have := (List.cons.inj hd).1
  rw [this]
  exact hb
end Go.Proofs.YtgdgbnklgngalaaDoor
