-- Words of the kit's print that this seat's texts name (wip/squeeze/prunex.py left the others out). Lean checks them.
import Derived.Test.YtdnbpapolckklaaWTab
/-! ### 56. Four, five, six operations that may come up next, in any order -/
namespace Go.Proofs.YtdnbpapolckklaaW.PrintLast
section
variable {P : Program} {ops : Array Oper} {Q : Exit → Act → World → Prop} {md : Region.Mode} {S : World → Prop} {ds : List Nat} {T : Bool × List (List Nat × List Nat)}
end
end Go.Proofs.YtdnbpapolckklaaW.PrintLast
