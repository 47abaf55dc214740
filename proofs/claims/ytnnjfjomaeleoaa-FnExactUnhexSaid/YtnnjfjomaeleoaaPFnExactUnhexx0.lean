-- Written by a program of this session (a changed copy of the kit's print: wip/print2). Lean checks it.
import Derived.Test.YtnnjfjomaeleoaaProg
import Derived.Below
import Derived.Deep.Draws
import Derived.Deep.AppendLies
import Derived.Maps.AppendAt
import Derived.OwnWalk
import Derived.Laws.BytesArg
import Derived.Laws.MakeOwn
import Derived.Laws.OwnMore
import Derived.Deep.OwnRows
import Derived.Tactics
import Derived.Lib.ConvBytes
import Derived.Laws.Slices
import Derived.WalkKit
import Derived.KernelRfl
import Derived.RowKit3
import Derived.Deep.LoopGhost
import Derived.Deep.QuietTactic
import Derived.BigQuiet
import Derived.WideLaws
import Derived.Deep.DeepCutAuto
import Derived.Deep.CutBlock
import Derived.Deep.RegionHeld3
import Derived.Laws.Rows
import Derived.Lib.AppendStr
import Derived.ArgAppend
import Derived.Laws.IdiomCopy
import Derived.OrdersHeld
import Derived.Laws.BitsLemmas
import Derived.RowKit
import Derived.Test.YtnnjfjomaeleoaaPad
import Derived.Test.YtnnjfjomaeleoaaShelf
import Derived.Test.YtnnjfjomaeleoaaWWords
import Derived.Test.YtnnjfjomaeleoaaWLast
import Derived.Test.YtnnjfjomaeleoaaWTab
import Derived.Test.YtnnjfjomaeleoaaWFour
import Derived.Test.YtnnjfjomaeleoaaWQPut
import Derived.Test.YtnnjfjomaeleoaaWApart
import Derived.Test.YtnnjfjomaeleoaaWArr
import Derived.Test.YtnnjfjomaeleoaaWZeros
import Derived.Test.YtnnjfjomaeleoaaWFoot
import Derived.Test.YtnnjfjomaeleoaaWKept
import Derived.Test.YtnnjfjomaeleoaaWShare
import Derived.Test.YtnnjfjomaeleoaaWN
import Derived.Test.YtnnjfjomaeleoaaWFootNe
import Derived.Test.YtnnjfjomaeleoaaWAt
import Derived.Test.YtnnjfjomaeleoaaWEqStruct
import Derived.Test.YtnnjfjomaeleoaaWRepsOne
import Derived.Test.YtnnjfjomaeleoaaWInv
import Derived.Test.YtnnjfjomaeleoaaWInvWords
import Derived.Test.YtnnjfjomaeleoaaWGuard
import Derived.Test.YtnnjfjomaeleoaaWNEv
import Derived.Test.YtnnjfjomaeleoaaWMore
namespace Go.Proofs.Ytnnjfjomaeleoaa.PFnExactUnhex
open Go.RowKit Go.Proofs.YtnnjfjomaeleoaaW.PrintWords Go.Proofs.YtnnjfjomaeleoaaW.PrintLast Go.Proofs.YtnnjfjomaeleoaaW.PrintMore
attribute [local go_sem] max2_int min2_int max_two min_two max_three min_three max_four min_four   -- for this text's walks alone
attribute [local go_sem] Go.Proofs.Ytnnjfjomaeleoaa.Pad.isSome_setCell
set_option linter.unusedVariables false
set_option linter.unusedSimpArgs false



def errW : Option Int → Value
  | none => .nilIface
  | some c => .iface 0 (.int .i64 c)
theorem errW_none : errW none = .nilIface := rfl
theorem errW_some (c : Int) : errW (some c) = .iface 0 (.int .i64 c) := rfl

theorem info5 : (Try.prog.info? 5).map (fun i => (i.zero, i.size, i.bytes)) = some (some (.int .u8 0), 1, 1) := by kernel_rfl
-- the values' own types

end Go.Proofs.Ytnnjfjomaeleoaa.PFnExactUnhex
