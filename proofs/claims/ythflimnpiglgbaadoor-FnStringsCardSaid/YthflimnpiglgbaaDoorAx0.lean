/- Written by a program of this session, out of the translation: functions as plain Lean functions, and that the machine's calls answer as they do. Condition: none beyond each theorem's own. -/
import Derived.Test.YthflimnpiglgbaaDoorProg
import Derived.Below
import Derived.Deep.Draws
import Derived.Deep.AppendLies
import Derived.Maps.AppendAt
import Derived.OwnWalk
import Derived.Laws.BytesArg
import Derived.Laws.MakeOwn
import Derived.Laws.OwnMore
import Derived.Deep.OwnRows
import Derived.Tactics
import Derived.Lib.ConvBytes
import Derived.Laws.Slices
import Derived.WalkKit
import Derived.KernelRfl
import Derived.RowKit3
import Derived.Deep.LoopGhost
import Derived.Deep.QuietTactic
import Derived.BigQuiet
import Derived.WideLaws
import Derived.Deep.DeepCutAuto
import Derived.Deep.CutBlock
import Derived.Deep.RegionHeld3
import Derived.Laws.Rows
import Derived.Lib.AppendStr
import Derived.ArgAppend
import Derived.Laws.IdiomCopy
import Derived.OrdersHeld
import Derived.Laws.BitsLemmas
import Derived.RowKit
import Derived.Lib.AppendIntMem
import Derived.Lib.SmallJoins
import Derived.Laws.OwnMore
import Derived.Test.YthflimnpiglgbaaDoorShelf
import Derived.Test.YthflimnpiglgbaaDoorWWords
import Derived.Test.YthflimnpiglgbaaDoorWLast
import Derived.Test.YthflimnpiglgbaaDoorWTab
import Derived.Test.YthflimnpiglgbaaDoorWFour
import Derived.Test.YthflimnpiglgbaaDoorWQPut
import Derived.Test.YthflimnpiglgbaaDoorWApart
import Derived.Test.YthflimnpiglgbaaDoorWArr
import Derived.Test.YthflimnpiglgbaaDoorWZeros
import Derived.Test.YthflimnpiglgbaaDoorWFoot
import Derived.Test.YthflimnpiglgbaaDoorWKept
import Derived.Test.YthflimnpiglgbaaDoorWShare
import Derived.Test.YthflimnpiglgbaaDoorWN
import Derived.Test.YthflimnpiglgbaaDoorWFootNe
import Derived.Test.YthflimnpiglgbaaDoorWAt
import Derived.Test.YthflimnpiglgbaaDoorWEqStruct
import Derived.Test.YthflimnpiglgbaaDoorWRepsOne
import Derived.Test.YthflimnpiglgbaaDoorWInv
import Derived.Test.YthflimnpiglgbaaDoorWInvWords
import Derived.Test.YthflimnpiglgbaaDoorWGuard
import Derived.Test.YthflimnpiglgbaaDoorWNEv
import Derived.Test.YthflimnpiglgbaaDoorWMore
import Derived.Test.YthflimnpiglgbaaDoorMine
namespace Go.Proofs.YthflimnpiglgbaaDoor.A
open Go.RowKit Go.Proofs.YthflimnpiglgbaaDoorW.PrintWords Go.Proofs.YthflimnpiglgbaaDoorW.PrintLast Go.Proofs.YthflimnpiglgbaaDoorW.PrintMore
attribute [local go_sem] max2_int min2_int max_two min_two max_three min_three max_four min_four   -- for this text's walks alone
set_option linter.unusedVariables false
set_option linter.unusedSimpArgs false



def errW : Option Int → Value
 | none => .nilIface
 | some c => .iface 81 (.int .i64 c)
theorem errW_none : errW none = .nilIface := rfl
theorem errW_some (c : Int) : errW (some c) = .iface 81 (.int .i64 c) := rfl

theorem info3 : (Tryd.prog.info? 3).map (fun i => (i.zero, i.size, i.bytes)) = some (some (.int .i64 0), 1, 8) := by kernel_rfl
theorem info5 : (Tryd.prog.info? 5).map (fun i => (i.zero, i.size, i.bytes)) = some (some (.int .u8 0), 1, 1) := by kernel_rfl
theorem info9 : (Tryd.prog.info? 9).map (fun i => (i.zero, i.size, i.bytes)) = some (some (.string ⟨#[]⟩), 1, 16) := by kernel_rfl
-- the values' own types

end Go.Proofs.YthflimnpiglgbaaDoor.A
