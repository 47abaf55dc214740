-- Words of the kit's print that this seat's texts name (wip/squeeze/prune.py left the others out). Lean checks them.
import Derived.Test.YtmkcpkhhlbmgcaaWWords
import Derived.Laws.StructEq
/-! ### 53. '==' of structs as_ one Bool -/
namespace Go.Proofs.YtmkcpkhhlbmgcaaW.PrintWords
open Go.RowKit
section
variable {P : Program} {d : Nat} {xs ys : Array Value} {f : Field} {fs : List Field} {a b : Value} {r s : Bool} {w : World}
end
end Go.Proofs.YtmkcpkhhlbmgcaaW.PrintWords
