-- Written by a program of this session (a changed copy of the kit's print: wip/print2). Lean checks it.
import Derived.Test.YtmkcpkhhlbmgcaaDoorProg
import Derived.Below
import Derived.Deep.Draws
import Derived.Deep.AppendLies
import Derived.Maps.AppendAt
import Derived.OwnWalk
import Derived.Laws.BytesArg
import Derived.Laws.MakeOwn
import Derived.Laws.OwnMore
import Derived.Deep.OwnRows
import Derived.Tactics
import Derived.Lib.ConvBytes
import Derived.Laws.Slices
import Derived.WalkKit
import Derived.KernelRfl
import Derived.RowKit3
import Derived.Deep.LoopGhost
import Derived.Deep.QuietTactic
import Derived.BigQuiet
import Derived.WideLaws
import Derived.Deep.DeepCutAuto
import Derived.Deep.CutBlock
import Derived.Deep.RegionHeld3
import Derived.Laws.Rows
import Derived.Lib.AppendStr
import Derived.ArgAppend
import Derived.Laws.IdiomCopy
import Derived.OrdersHeld
import Derived.Laws.BitsLemmas
import Derived.RowKit
import Derived.Test.YtmkcpkhhlbmgcaaDoorPad
import Derived.Test.YtmkcpkhhlbmgcaaDoorShelf
import Derived.Lib.SplitLaws
import Derived.Test.YtmkcpkhhlbmgcaaDoorWWords
import Derived.Test.YtmkcpkhhlbmgcaaDoorWLast
import Derived.Test.YtmkcpkhhlbmgcaaDoorWTab
import Derived.Test.YtmkcpkhhlbmgcaaDoorWFour
import Derived.Test.YtmkcpkhhlbmgcaaDoorWQPut
import Derived.Test.YtmkcpkhhlbmgcaaDoorWApart
import Derived.Test.YtmkcpkhhlbmgcaaDoorWArr
import Derived.Test.YtmkcpkhhlbmgcaaDoorWZeros
import Derived.Test.YtmkcpkhhlbmgcaaDoorWFoot
import Derived.Test.YtmkcpkhhlbmgcaaDoorWKept
import Derived.Test.YtmkcpkhhlbmgcaaDoorWShare
import Derived.Test.YtmkcpkhhlbmgcaaDoorWN
import Derived.Test.YtmkcpkhhlbmgcaaDoorWFootNe
import Derived.Test.YtmkcpkhhlbmgcaaDoorWAt
import Derived.Test.YtmkcpkhhlbmgcaaDoorWEqStruct
import Derived.Test.YtmkcpkhhlbmgcaaDoorWRepsOne
import Derived.Test.YtmkcpkhhlbmgcaaDoorWInv
import Derived.Test.YtmkcpkhhlbmgcaaDoorWInvWords
import Derived.Test.YtmkcpkhhlbmgcaaDoorWGuard
import Derived.Test.YtmkcpkhhlbmgcaaDoorWNEv
import Derived.Test.YtmkcpkhhlbmgcaaDoorWMore
namespace Go.Proofs.YtmkcpkhhlbmgcaaDoor.PFnExactPartsOf
open Go.RowKit Go.Proofs.YtmkcpkhhlbmgcaaDoorW.PrintWords Go.Proofs.YtmkcpkhhlbmgcaaDoorW.PrintLast Go.Proofs.YtmkcpkhhlbmgcaaDoorW.PrintMore
attribute [local go_sem] max2_int min2_int max_two min_two max_three min_three max_four min_four   -- for this text's walks alone
attribute [local go_sem] Go.Proofs.YtmkcpkhhlbmgcaaDoor.Pad.isSome_setCell
set_option linter.unusedVariables false
set_option linter.unusedSimpArgs false



def errW : Option Int → Value
  | none => .nilIface
  | some c => .iface 0 (.int .i64 c)
theorem errW_none : errW none = .nilIface := rfl
theorem errW_some (c : Int) : errW (some c) = .iface 0 (.int .i64 c) := rfl

theorem info5 : (Tryd.prog.info? 5).map (fun i => (i.zero, i.size, i.bytes)) = some (some (.int .u8 0), 1, 1) := by kernel_rfl
theorem info9 : (Tryd.prog.info? 9).map (fun i => (i.zero, i.size, i.bytes)) = some (some (.string ⟨#[]⟩), 1, 16) := by kernel_rfl
-- the values' own types

end Go.Proofs.YtmkcpkhhlbmgcaaDoor.PFnExactPartsOf
