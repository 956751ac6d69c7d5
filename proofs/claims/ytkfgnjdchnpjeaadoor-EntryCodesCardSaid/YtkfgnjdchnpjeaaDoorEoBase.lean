/- Base: what the law EntryCodes asks of it. -/
import Derived.Test.YtkfgnjdchnpjeaaDoorProg
import Derived.Lib.LaidTab
import Derived.Lib.ItoaNum
import Derived.Below
import Derived.WalkSmall
import Derived.KernelRfl
namespace Go.Proofs.YtkfgnjdchnpjeaaDoor
open Go.RowKit
set_option linter.unusedVariables false
set_option linter.unusedSimpArgs false

def tz64Tab : List Int := [0, 1, 56, 2, 57, 49, 28, 3, 61, 58, 42, 50, 38, 29, 17, 4, 62, 47, 59, 36, 45, 43, 51, 22, 53, 39, 33, 30, 24, 18, 12, 5, 63, 55, 48, 27, 60, 41, 37, 16, 46, 35, 44, 21, 52, 32, 23, 11, 54, 26, 40, 15, 34, 20, 31, 10, 25, 14, 19, 9, 13, 8, 7, 6]
theorem gTz : Tryd.prog.globalNamed "math/bits.deBruijn64tab" = some 4 := by kernel_rfl
theorem gPow : Tryd.prog.globalNamed "internal/strconv.uint64pow10" = some 2 := by kernel_rfl
theorem gSyn : Tryd.prog.globalNamed "strconv.ErrSyntax" = some 0 := by kernel_rfl
theorem gRan : Tryd.prog.globalNamed "strconv.ErrRange" = some 1 := by kernel_rfl
/-- The listed variables that are read hold what the program's text lays. -/
structure TabW (w : World) : Prop where mk ::
  (size : 5 ≤ w.heap.size)
  (tz : Lib.TabIs Tryd.prog w "math/bits.deBruijn64tab" .u8 tz64Tab)
  (pow : Lib.TabIs Tryd.prog w "internal/strconv.uint64pow10" .u64 Lib.pow10Tab)
  (syn : ∃ t p, w.var? Tryd.prog "strconv.ErrSyntax" = some #[.iface t p])
  (ran : ∃ t p, w.var? Tryd.prog "strconv.ErrRange" = some #[.iface t p])
theorem TabW.below {w W : World} (h : TabW w) (hb : Below w.heap.size w W) : TabW W := by
  obtain ⟨hs, h1, h2, ⟨t3, p3, h3⟩, ⟨t4, p4, h4⟩⟩ := h
  exact ⟨Nat.le_trans hs hb.size, var?_below hb gTz (by omega) h1, var?_below hb gPow (by omega) h2, ⟨t3, p3, var?_below hb gSyn (by omega) h3⟩, ⟨t4, p4, var?_below hb gRan (by omega) h4⟩⟩
end Go.Proofs.YtkfgnjdchnpjeaaDoor

