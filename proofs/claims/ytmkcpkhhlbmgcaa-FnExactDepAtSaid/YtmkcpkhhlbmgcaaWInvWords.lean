-- Words of the kit's print that this seat's texts name (wip/squeeze/prune.py left the others out). Lean checks them.
import Derived.Test.YtmkcpkhhlbmgcaaWInv
import Derived.Test.YtmkcpkhhlbmgcaaWFootNe
namespace Go.Proofs.YtmkcpkhhlbmgcaaW.PrintWords
open Go.RowKit
end Go.Proofs.YtmkcpkhhlbmgcaaW.PrintWords
namespace Go.Proofs.YtmkcpkhhlbmgcaaW.PrintLast
section
variable {ops : Array Oper} {a : Act} {o og : Oper} {g : Nat} {t : Tmp} {u : Bool}
end
end Go.Proofs.YtmkcpkhhlbmgcaaW.PrintLast
