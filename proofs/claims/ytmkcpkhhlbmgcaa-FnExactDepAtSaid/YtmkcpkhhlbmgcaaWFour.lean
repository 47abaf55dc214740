-- Words of the kit's print that this seat's texts name (wip/squeeze/prune.py left the others out). Lean checks them.
import Derived.Test.YtmkcpkhhlbmgcaaWTab
/-! ### 56. Four, five, six operations that may come up next, in any order -/
namespace Go.Proofs.YtmkcpkhhlbmgcaaW.PrintLast
section
variable {P : Program} {ops : Array Oper} {Q : Exit → Act → World → Prop} {md : Region.Mode} {S : World → Prop} {ds : List Nat} {T : Bool × List (List Nat × List Nat)}
end
end Go.Proofs.YtmkcpkhhlbmgcaaW.PrintLast
