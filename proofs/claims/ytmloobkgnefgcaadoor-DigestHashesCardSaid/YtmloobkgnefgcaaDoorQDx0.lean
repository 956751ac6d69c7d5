-- Written by this session's driver (wip/drive.py) over the kit's print, for this seat.
import Derived.Test.YtmloobkgnefgcaaDoorProg
import Derived.Below
import Derived.Deep.Draws
import Derived.Deep.AppendLies
import Derived.Maps.AppendAt
import Derived.OwnWalk
import Derived.Laws.BytesArg
import Derived.Laws.MakeOwn
import Derived.Laws.OwnMore
import Derived.Deep.OwnRows
import Derived.Tactics
import Derived.Lib.ConvBytes
import Derived.Laws.Slices
import Derived.WalkKit
import Derived.KernelRfl
import Derived.RowKit3
import Derived.Deep.LoopGhost
import Derived.Deep.QuietTactic
import Derived.BigQuiet
import Derived.WideLaws
import Derived.Deep.DeepCutAuto
import Derived.Deep.CutBlock
import Derived.Deep.RegionHeld3
import Derived.Laws.Rows
import Derived.Lib.AppendStr
import Derived.ArgAppend
import Derived.Laws.IdiomCopy
import Derived.OrdersHeld
import Derived.Laws.BitsLemmas
import Derived.RowKit
import Derived.Test.YtmloobkgnefgcaaDoorHexTop
import Derived.Test.YtmloobkgnefgcaaDoorWWords
import Derived.Test.YtmloobkgnefgcaaDoorWLast
import Derived.Test.YtmloobkgnefgcaaDoorWTab
import Derived.Test.YtmloobkgnefgcaaDoorWFour
import Derived.Test.YtmloobkgnefgcaaDoorWQPut
import Derived.Test.YtmloobkgnefgcaaDoorWApart
import Derived.Test.YtmloobkgnefgcaaDoorWArr
import Derived.Test.YtmloobkgnefgcaaDoorWZeros
import Derived.Test.YtmloobkgnefgcaaDoorWFoot
import Derived.Test.YtmloobkgnefgcaaDoorWKept
import Derived.Test.YtmloobkgnefgcaaDoorWShare
import Derived.Test.YtmloobkgnefgcaaDoorWN
import Derived.Test.YtmloobkgnefgcaaDoorWFootNe
import Derived.Test.YtmloobkgnefgcaaDoorWAt
import Derived.Test.YtmloobkgnefgcaaDoorWEqStruct
import Derived.Test.YtmloobkgnefgcaaDoorWRepsOne
import Derived.Test.YtmloobkgnefgcaaDoorWInv
import Derived.Test.YtmloobkgnefgcaaDoorWInvWords
import Derived.Test.YtmloobkgnefgcaaDoorWGuard
import Derived.Test.YtmloobkgnefgcaaDoorWNEv
import Derived.Test.YtmloobkgnefgcaaDoorWMore
namespace Go.Proofs.YtmloobkgnefgcaaDoor.QD
open Go.RowKit Go.Proofs.YtmloobkgnefgcaaDoorW.PrintWords Go.Proofs.YtmloobkgnefgcaaDoorW.PrintLast Go.Proofs.YtmloobkgnefgcaaDoorW.PrintMore
attribute [local go_sem] max2_int min2_int max_two min_two max_three min_three max_four min_four   -- for this text's walks alone
set_option linter.unusedVariables false
set_option linter.unusedSimpArgs false



def errW : Option Int → Value
  | none => .nilIface
  | some c => .iface 0 (.int .i64 c)
theorem errW_none : errW none = .nilIface := rfl
theorem errW_some (c : Int) : errW (some c) = .iface 0 (.int .i64 c) := rfl

theorem info5 : (Tryd.prog.info? 5).map (fun i => (i.zero, i.size, i.bytes)) = some (some (.int .u8 0), 1, 1) := by kernel_rfl
-- the values' own types

end Go.Proofs.YtmloobkgnefgcaaDoor.QD
