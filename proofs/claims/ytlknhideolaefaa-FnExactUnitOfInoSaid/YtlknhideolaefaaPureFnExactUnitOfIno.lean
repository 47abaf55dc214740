/- FnExactUnitOfIno: for every int the program's UnitOfIno answers what the reference's does; no condition. -/
import Derived.Test.YtlknhideolaefaaPFnExactUnitOfInox1
namespace Go.Proofs.Ytlknhideolaefaa.Pure
open Go.RowKit Go.Proofs.Ytlknhideolaefaa.PFnExactUnitOfIno Go.Proofs.YtlknhideolaefaaW.PrintWords Go.Proofs.YtlknhideolaefaaW.PrintLast
theorem FnExactUnitOfIno : laws_FnExactUnitOfIno.Pure := by
  intro a hw
  unfold laws_FnExactUnitOfIno.f spec_UnitOfIno.f impl_UnitOfIno.f impl_isIno.f impl_within.f spec_l01In.f
  by_cases h1 : a ≥ 1
  · by_cases h2 : a ≤ 8
    · simp [h1, h2]
    · simp [h1, h2]
  · simp [h1]
end Go.Proofs.Ytlknhideolaefaa.Pure
