/- FnExactBitsNew: the program's BitsNew answers what the reference's does, in new memory; no condition. -/
import Derived.Test.YtnnjfjomaeleoaaPFnExactBitsNewx4
import Derived.Test.YtnnjfjomaeleoaaAid
namespace Go.Proofs.Ytnnjfjomaeleoaa.Pure
open Go.RowKit Go.Proofs.Ytnnjfjomaeleoaa.PFnExactBitsNew Go.Proofs.YtnnjfjomaeleoaaW.PrintWords Go.Proofs.YtnnjfjomaeleoaaW.PrintLast Go.Proofs.YtnnjfjomaeleoaaW.PrintMore Go.Proofs.Ytnnjfjomaeleoaa.Aid
set_option linter.unusedVariables false
set_option linter.unusedSimpArgs false

theorem FnExactBitsNew : laws_FnExactBitsNew.Pure := ⟨64, by decide +kernel⟩
end Go.Proofs.Ytnnjfjomaeleoaa.Pure
