/- UnpL, Text: what the law MessageMissing asks of it. -/
import Derived.Test.YthmlibimhdeocaaDoorMiPack
import Derived.Test.YthmlibimhdeocaaDoorMiWWords
import Derived.Lib.AtoiAll
import Derived.Lib.ItoaNum
import Derived.Lib.ItoaLen
section
namespace Go.Proofs.YthmlibimhdeocaaDoor
set_option linter.unusedVariables false
set_option linter.unusedSimpArgs false

def i64R (x : Int) : Prop := -9223372036854775808 ≤ x ∧ x ≤ 9223372036854775807
end Go.Proofs.YthmlibimhdeocaaDoor

end
section
namespace Go.Proofs.YthmlibimhdeocaaDoor
open Go.RowKit Go.Proofs.YthmlibimhdeocaaDoorW.PrintWords
set_option linter.unusedVariables false
set_option linter.unusedSimpArgs false

theorem w64 {n : Int} (h0 : -9223372036854775808 ≤ n) (h1 : n ≤ 9223372036854775807) : wrap64 n = n := by unfold wrap64; omega
theorem w64s (i : Nat) (h : i < 9223372036854775807) : wrap64 ((i : Int) + 1) = ((i + 1 : Nat) : Int) := by rw [w64 (by omega) (by omega)]; omega
end Go.Proofs.YthmlibimhdeocaaDoor

end
