/- Written by a program of this session, out of the translation: functions as plain Lean functions, and that the machine's calls answer as they do. Condition: none beyond each theorem's own. -/
import Derived.Test.YtlgfcpmihocheaaDoorProg
import Derived.Below
import Derived.Deep.Draws
import Derived.Deep.AppendLies
import Derived.Maps.AppendAt
import Derived.OwnWalk
import Derived.Laws.BytesArg
import Derived.Laws.MakeOwn
import Derived.Laws.OwnMore
import Derived.Deep.OwnRows
import Derived.Tactics
import Derived.Lib.ConvBytes
import Derived.Laws.Slices
import Derived.WalkKit
import Derived.KernelRfl
import Derived.RowKit3
import Derived.Deep.LoopGhost
import Derived.Deep.QuietTactic
import Derived.BigQuiet
import Derived.WideLaws
import Derived.Deep.DeepCutAuto
import Derived.Deep.CutBlock
import Derived.Deep.RegionHeld3
import Derived.Laws.Rows
import Derived.Lib.AppendStr
import Derived.ArgAppend
import Derived.Laws.IdiomCopy
import Derived.OrdersHeld
import Derived.Laws.BitsLemmas
import Derived.RowKit
import Derived.Lib.AppendIntMem
import Derived.Lib.SmallJoins
import Derived.Test.YtlgfcpmihocheaaDoorShelf
import Derived.Test.YtlgfcpmihocheaaDoorWWords
import Derived.Test.YtlgfcpmihocheaaDoorWLast
import Derived.Test.YtlgfcpmihocheaaDoorWTab
import Derived.Test.YtlgfcpmihocheaaDoorWFour
import Derived.Test.YtlgfcpmihocheaaDoorWQPut
import Derived.Test.YtlgfcpmihocheaaDoorWApart
import Derived.Test.YtlgfcpmihocheaaDoorWArr
import Derived.Test.YtlgfcpmihocheaaDoorWZeros
import Derived.Test.YtlgfcpmihocheaaDoorWFoot
import Derived.Test.YtlgfcpmihocheaaDoorWKept
import Derived.Test.YtlgfcpmihocheaaDoorWShare
import Derived.Test.YtlgfcpmihocheaaDoorWN
import Derived.Test.YtlgfcpmihocheaaDoorWFootNe
import Derived.Test.YtlgfcpmihocheaaDoorWAt
import Derived.Test.YtlgfcpmihocheaaDoorWEqStruct
import Derived.Test.YtlgfcpmihocheaaDoorWRepsOne
import Derived.Test.YtlgfcpmihocheaaDoorWInv
import Derived.Test.YtlgfcpmihocheaaDoorWInvWords
import Derived.Test.YtlgfcpmihocheaaDoorWGuard
import Derived.Test.YtlgfcpmihocheaaDoorWNEv
import Derived.Test.YtlgfcpmihocheaaDoorWMore
import Derived.Test.YtlgfcpmihocheaaDoorMine
namespace Go.Proofs.YtlgfcpmihocheaaDoor.A
open Go.RowKit Go.Proofs.YtlgfcpmihocheaaDoorW.PrintWords Go.Proofs.YtlgfcpmihocheaaDoorW.PrintLast Go.Proofs.YtlgfcpmihocheaaDoorW.PrintMore
attribute [local go_sem] max2_int min2_int max_two min_two max_three min_three max_four min_four   -- for this text's walks alone
set_option linter.unusedVariables false
set_option linter.unusedSimpArgs false



def errW : Option Int → Value
 | none => .nilIface
 | some c => .iface 0 (.int .i64 c)
theorem errW_none : errW none = .nilIface := rfl
theorem errW_some (c : Int) : errW (some c) = .iface 0 (.int .i64 c) := rfl

theorem info3 : (Tryd.prog.info? 3).map (fun i => (i.zero, i.size, i.bytes)) = some (some (.int .i64 0), 1, 8) := by kernel_rfl
theorem info5 : (Tryd.prog.info? 5).map (fun i => (i.zero, i.size, i.bytes)) = some (some (.int .u8 0), 1, 1) := by kernel_rfl
-- the values' own types

end Go.Proofs.YtlgfcpmihocheaaDoor.A
