/- FnExactConstants: each of the program's constants is the number that the document names; no condition. -/
import Derived.Test.YtlknhideolaefaaPFnExactConstantsx1
namespace Go.Proofs.Ytlknhideolaefaa.Pure
open Go.RowKit Go.Proofs.Ytlknhideolaefaa.PFnExactConstants Go.Proofs.YtlknhideolaefaaW.PrintWords Go.Proofs.YtlknhideolaefaaW.PrintLast
theorem FnExactConstants : laws_FnExactConstants.Pure := by
  first | rfl | (unfold laws_FnExactConstants.Pure laws_FnExactConstants.f; simp)
end Go.Proofs.Ytlknhideolaefaa.Pure
