/- FnExactDirNew: the program's DirNew answers what the reference's does, in new memory; no condition. -/
import Derived.Test.YtfkjjehkngmgaaaPFnExactDirNewx2
import Derived.Test.YtfkjjehkngmgaaaAid
namespace Go.Proofs.Ytfkjjehkngmgaaa.Pure
open Go.RowKit Go.Proofs.Ytfkjjehkngmgaaa.PFnExactDirNew Go.Proofs.YtfkjjehkngmgaaaW.PrintWords Go.Proofs.YtfkjjehkngmgaaaW.PrintLast Go.Proofs.YtfkjjehkngmgaaaW.PrintMore Go.Proofs.Ytfkjjehkngmgaaa.Aid
set_option linter.unusedVariables false
set_option linter.unusedSimpArgs false

theorem FnExactDirNew : laws_FnExactDirNew.Pure := ⟨32, by decide +kernel⟩
end Go.Proofs.Ytfkjjehkngmgaaa.Pure
