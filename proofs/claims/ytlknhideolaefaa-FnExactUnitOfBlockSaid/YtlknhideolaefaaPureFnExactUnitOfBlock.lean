/- FnExactUnitOfBlock: for every int the program's UnitOfBlock answers what the reference's does; no condition. -/
import Derived.Test.YtlknhideolaefaaPFnExactUnitOfBlockx1
namespace Go.Proofs.Ytlknhideolaefaa.Pure
open Go.RowKit Go.Proofs.Ytlknhideolaefaa.PFnExactUnitOfBlock Go.Proofs.YtlknhideolaefaaW.PrintWords Go.Proofs.YtlknhideolaefaaW.PrintLast
theorem FnExactUnitOfBlock : laws_FnExactUnitOfBlock.Pure := by
  intro a hw
  unfold laws_FnExactUnitOfBlock.f spec_UnitOfBlock.f impl_UnitOfBlock.f impl_isBlock.f impl_within.f spec_l01In.f
  by_cases h1 : a ≥ 1
  · by_cases h2 : a ≤ 16
    · have e1 : wrap64 (a + 4) = a + 4 := by unfold wrap64; omega
      have e2 : wrap64 (a + 5) = a + 5 := by unfold wrap64; omega
      have e3 : wrap64 (a + 5 - 1) = a + 4 := by unfold wrap64; omega
      simp [h1, h2, e1, e2, e3]
    · simp [h1, h2]
  · simp [h1]
end Go.Proofs.Ytlknhideolaefaa.Pure
