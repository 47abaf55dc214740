-- Words of the kit's print that this seat's texts name (wip/squeeze/prunex.py left the others out). Lean checks them.
import Derived.Test.YtdnbpapolckklaaWInv
import Derived.Test.YtdnbpapolckklaaWFootNe
namespace Go.Proofs.YtdnbpapolckklaaW.PrintWords
open Go.RowKit
end Go.Proofs.YtdnbpapolckklaaW.PrintWords
namespace Go.Proofs.YtdnbpapolckklaaW.PrintLast
section
variable {ops : Array Oper} {a : Act} {o og : Oper} {g : Nat} {t : Tmp} {u : Bool}
end
end Go.Proofs.YtdnbpapolckklaaW.PrintLast
