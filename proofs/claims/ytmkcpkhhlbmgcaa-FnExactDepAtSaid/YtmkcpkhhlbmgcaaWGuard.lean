-- Words of the kit's print that this seat's texts name (wip/squeeze/prune.py left the others out). Lean checks them.
import Derived.Test.YtmkcpkhhlbmgcaaWWords
/-! ### 58. A guarded operation whose guard is known to want it: the same goal without the guard -/
namespace Go.Proofs.YtmkcpkhhlbmgcaaW.PrintWords
open Go.RowKit
section
variable {P : Program} {ops : Array Oper} {rest : List Oper} {o : Oper} {a : Act} {Q : Exit → Act → World → Prop} {W : World}
end
end Go.Proofs.YtmkcpkhhlbmgcaaW.PrintWords
