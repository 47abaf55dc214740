-- Written by a program of this session (a changed copy of the kit's print: wip/print2). Lean checks it.
import Derived.Test.YtgidhjomadajlaaDoorProg
import Derived.Below
import Derived.Deep.Draws
import Derived.Deep.AppendLies
import Derived.Maps.AppendAt
import Derived.OwnWalk
import Derived.Laws.BytesArg
import Derived.Laws.MakeOwn
import Derived.Laws.OwnMore
import Derived.Deep.OwnRows
import Derived.Tactics
import Derived.Lib.ConvBytes
import Derived.Laws.Slices
import Derived.WalkKit
import Derived.KernelRfl
import Derived.RowKit3
import Derived.Deep.LoopGhost
import Derived.Deep.QuietTactic
import Derived.BigQuiet
import Derived.WideLaws
import Derived.Deep.DeepCutAuto
import Derived.Deep.CutBlock
import Derived.Deep.RegionHeld3
import Derived.Laws.Rows
import Derived.Lib.AppendStr
import Derived.ArgAppend
import Derived.Laws.IdiomCopy
import Derived.OrdersHeld
import Derived.Laws.BitsLemmas
import Derived.RowKit
import Derived.Test.YtgidhjomadajlaaDoorPad
import Derived.Test.YtgidhjomadajlaaDoorShelf
import Derived.Lib.LaidTab
import Derived.Lib.ItoaNum
import Derived.Lib.AtoiAll
import Derived.Sort.Grow
import Derived.Test.YtgidhjomadajlaaDoorWWords
import Derived.Test.YtgidhjomadajlaaDoorWLast
import Derived.Test.YtgidhjomadajlaaDoorWTab
import Derived.Test.YtgidhjomadajlaaDoorWFour
import Derived.Test.YtgidhjomadajlaaDoorWQPut
import Derived.Test.YtgidhjomadajlaaDoorWApart
import Derived.Test.YtgidhjomadajlaaDoorWArr
import Derived.Test.YtgidhjomadajlaaDoorWZeros
import Derived.Test.YtgidhjomadajlaaDoorWFoot
import Derived.Test.YtgidhjomadajlaaDoorWKept
import Derived.Test.YtgidhjomadajlaaDoorWShare
import Derived.Test.YtgidhjomadajlaaDoorWN
import Derived.Test.YtgidhjomadajlaaDoorWFootNe
import Derived.Test.YtgidhjomadajlaaDoorWAt
import Derived.Test.YtgidhjomadajlaaDoorWEqStruct
import Derived.Test.YtgidhjomadajlaaDoorWRepsOne
import Derived.Test.YtgidhjomadajlaaDoorWInv
import Derived.Test.YtgidhjomadajlaaDoorWInvWords
import Derived.Test.YtgidhjomadajlaaDoorWGuard
import Derived.Test.YtgidhjomadajlaaDoorWNEv
import Derived.Test.YtgidhjomadajlaaDoorWMore
namespace Go.Proofs.YtgidhjomadajlaaDoor.PFnNumbers
open Go.RowKit Go.Proofs.YtgidhjomadajlaaDoorW.PrintWords Go.Proofs.YtgidhjomadajlaaDoorW.PrintLast Go.Proofs.YtgidhjomadajlaaDoorW.PrintMore
attribute [local go_sem] max2_int min2_int max_two min_two max_three min_three max_four min_four   -- for this text's walks alone
attribute [local go_sem] Go.Proofs.YtgidhjomadajlaaDoor.Pad.isSome_setCell
set_option linter.unusedVariables false
set_option linter.unusedSimpArgs false



def errW : Option Int → Value
  | none => .nilIface
  | some c => .iface 0 (.int .i64 c)
theorem errW_none : errW none = .nilIface := rfl
theorem errW_some (c : Int) : errW (some c) = .iface 0 (.int .i64 c) := rfl

theorem info3 : (Tryd.prog.info? 3).map (fun i => (i.zero, i.size, i.bytes)) = some (some (.int .i64 0), 1, 8) := by kernel_rfl
theorem info5 : (Tryd.prog.info? 5).map (fun i => (i.zero, i.size, i.bytes)) = some (some (.int .u8 0), 1, 1) := by kernel_rfl
-- the values' own types

end Go.Proofs.YtgidhjomadajlaaDoor.PFnNumbers
