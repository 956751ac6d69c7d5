/- Text: what the law EntryTurns asks of it. -/
import Derived.Test.YtkfgnjdchnpjeaaDoorEtWWords
namespace Go.Proofs.YtkfgnjdchnpjeaaDoor
open Go.RowKit Go.Proofs.YtkfgnjdchnpjeaaDoorW.PrintWords
set_option linter.unusedVariables false
set_option linter.unusedSimpArgs false

theorem bt_drop (x : ByteArray) (i : Nat) (h : i < x.size) : ∃ c : UInt8, x.data.toList.drop i = c :: x.data.toList.drop (i + 1) ∧ bt x (i : Int) = (c.toNat : Int) ∧ c.toNat < 256 := by
  have hl : i < x.data.toList.length := by simpa using h
  refine ⟨x.data.toList[i], List.drop_eq_getElem_cons hl, ?_, UInt8.toNat_lt _⟩
  unfold bt
  rw [dif_pos (by simpa using h)]
  simp [ByteArray.getElem_eq_getElem_data]
theorem w64 {n : Int} (h0 : -9223372036854775808 ≤ n) (h1 : n ≤ 9223372036854775807) : wrap64 n = n := by unfold wrap64; omega
theorem w64s (i : Nat) (h : i < 9223372036854775807) : wrap64 ((i : Int) + 1) = ((i + 1 : Nat) : Int) := by rw [w64 (by omega) (by omega)]; omega
theorem size_list (x : ByteArray) : x.data.toList.length = x.size := Array.length_toList
theorem list_eq {x y : ByteArray} (h : x.data.toList = y.data.toList) : x = y := by
  obtain ⟨a⟩ := x
  obtain ⟨b⟩ := y
  congr 1
  exact Array.toList_inj.1 h
theorem toList_eqv (x : ByteArray) : x.toList = x.data.toList := ByteArray.toList_eq x
end Go.Proofs.YtkfgnjdchnpjeaaDoor

