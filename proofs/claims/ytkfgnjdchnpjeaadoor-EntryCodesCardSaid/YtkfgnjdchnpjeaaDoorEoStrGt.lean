/- StrGt: what the law EntryCodes asks of it. -/
import Derived.Laws.Strings
namespace Go.Proofs.YtkfgnjdchnpjeaaDoor
set_option linter.unusedSimpArgs false
open Go

theorem bytesLess_tri : ∀ x y : List UInt8, Op.bytesLess y x = !(Op.bytesLess x y || x == y)
  | [], [] => rfl
  | [], b :: s => rfl
  | a :: r, [] => rfl
  | a :: r, b :: s => by
    have ih := bytesLess_tri r s
    simp only [Op.bytesLess]
    by_cases h1 : a < b
    · have h2 : ¬ b < a := fun h => by simp only [UInt8.lt_iff_toNat_lt] at h h1; omega
      have h3 : ¬ b = a := fun h => by subst h; exact h2 h1
      have h4 : ¬ a = b := fun h => h3 h.symm
      simp [h1, h2, h3, h4]
    · by_cases h2 : b < a
      · have h3 : ¬ a = b := fun h => by subst h; exact h1 h2
        have h4 : ¬ b = a := fun h => h3 h.symm
        simp [h1, h2, h3, h4]
      · have h3 : a = b := UInt8.toNat.inj (by simp only [UInt8.lt_iff_toNat_lt] at h1 h2; omega)
        subst h3
        simp [h1, ih]
@[go_sem] theorem binOp_string_gtr (t : TypeId) (a b : ByteArray) : binOp .gtr t (.string a) (.string b) = pure (.bool (Op.bytesLess b.toList a.toList)) := by
  rw [bytesLess_tri]
  simp [binOp, Op.stringOp]
end Go.Proofs.YtkfgnjdchnpjeaaDoor

