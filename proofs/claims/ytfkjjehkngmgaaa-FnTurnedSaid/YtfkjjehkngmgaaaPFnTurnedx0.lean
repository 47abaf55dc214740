-- Written by a program of this session (a changed copy of the kit's print: wip/print2). Lean checks it.
import Derived.Test.YtfkjjehkngmgaaaProg
import Derived.Below
import Derived.Deep.Draws
import Derived.Deep.AppendLies
import Derived.Maps.AppendAt
import Derived.OwnWalk
import Derived.Laws.BytesArg
import Derived.Laws.MakeOwn
import Derived.Laws.OwnMore
import Derived.Deep.OwnRows
import Derived.Tactics
import Derived.Lib.ConvBytes
import Derived.Laws.Slices
import Derived.WalkKit
import Derived.KernelRfl
import Derived.RowKit3
import Derived.Deep.LoopGhost
import Derived.Deep.QuietTactic
import Derived.BigQuiet
import Derived.WideLaws
import Derived.Deep.DeepCutAuto
import Derived.Deep.CutBlock
import Derived.Deep.RegionHeld3
import Derived.Laws.Rows
import Derived.Lib.AppendStr
import Derived.ArgAppend
import Derived.Laws.IdiomCopy
import Derived.OrdersHeld
import Derived.Laws.BitsLemmas
import Derived.RowKit
import Derived.Test.YtfkjjehkngmgaaaPad
import Derived.Test.YtfkjjehkngmgaaaWWords
import Derived.Test.YtfkjjehkngmgaaaWLast
import Derived.Test.YtfkjjehkngmgaaaWTab
import Derived.Test.YtfkjjehkngmgaaaWFour
import Derived.Test.YtfkjjehkngmgaaaWQPut
import Derived.Test.YtfkjjehkngmgaaaWApart
import Derived.Test.YtfkjjehkngmgaaaWArr
import Derived.Test.YtfkjjehkngmgaaaWZeros
import Derived.Test.YtfkjjehkngmgaaaWFoot
import Derived.Test.YtfkjjehkngmgaaaWKept
import Derived.Test.YtfkjjehkngmgaaaWShare
import Derived.Test.YtfkjjehkngmgaaaWN
import Derived.Test.YtfkjjehkngmgaaaWFootNe
import Derived.Test.YtfkjjehkngmgaaaWAt
import Derived.Test.YtfkjjehkngmgaaaWEqStruct
import Derived.Test.YtfkjjehkngmgaaaWRepsOne
import Derived.Test.YtfkjjehkngmgaaaWInv
import Derived.Test.YtfkjjehkngmgaaaWInvWords
import Derived.Test.YtfkjjehkngmgaaaWGuard
import Derived.Test.YtfkjjehkngmgaaaWNEv
import Derived.Test.YtfkjjehkngmgaaaWMore
namespace Go.Proofs.Ytfkjjehkngmgaaa.PFnTurned
open Go.RowKit Go.Proofs.YtfkjjehkngmgaaaW.PrintWords Go.Proofs.YtfkjjehkngmgaaaW.PrintLast Go.Proofs.YtfkjjehkngmgaaaW.PrintMore
attribute [local go_sem] max2_int min2_int max_two min_two max_three min_three max_four min_four   -- for this text's walks alone
attribute [local go_sem] Go.Proofs.Ytfkjjehkngmgaaa.Pad.isSome_setCell
set_option linter.unusedVariables false
set_option linter.unusedSimpArgs false



def errW : Option Int → Value
  | none => .nilIface
  | some c => .iface 0 (.int .i64 c)
theorem errW_none : errW none = .nilIface := rfl
theorem errW_some (c : Int) : errW (some c) = .iface 0 (.int .i64 c) := rfl

theorem info3 : (Try.prog.info? 3).map (fun i => (i.zero, i.size, i.bytes)) = some (some (.int .i64 0), 1, 8) := by kernel_rfl
theorem info5 : (Try.prog.info? 5).map (fun i => (i.zero, i.size, i.bytes)) = some (some (.int .u8 0), 1, 1) := by kernel_rfl
-- the values' own types

end Go.Proofs.Ytfkjjehkngmgaaa.PFnTurned
