/- FnExactInodeNew: for every int the program's InodeNew answers what the reference's does, in new memory; no condition. -/
import Derived.Test.YtnnjfjomaeleoaaPFnExactInodeNewx2
import Derived.Test.YtnnjfjomaeleoaaAid
namespace Go.Proofs.Ytnnjfjomaeleoaa.Pure
open Go.RowKit Go.Proofs.Ytnnjfjomaeleoaa.PFnExactInodeNew Go.Proofs.YtnnjfjomaeleoaaW.PrintWords Go.Proofs.YtnnjfjomaeleoaaW.PrintLast Go.Proofs.YtnnjfjomaeleoaaW.PrintMore Go.Proofs.Ytnnjfjomaeleoaa.Aid
set_option linter.unusedVariables false
set_option linter.unusedSimpArgs false

theorem eq00 : laws_eqIntS.f 5 [0, 0] [0, 0] = some true := by decide +kernel
theorem mark00 : laws_markIntS.f 5 [0, 0] 1 = some (3, [1, 2]) := by decide +kernel
theorem held12 : laws_heldIntS.f 5 [1, 2] 1 = some 3 := by decide +kernel
theorem FnExactInodeNew : laws_FnExactInodeNew.Pure := by
  intro a ha
  have hr : List.replicate 2 (0 : Int) = [0, 0] := rfl
  have h2 : (2 : Nat) ≤ 35184372088832 := by decide
  by_cases h : a = 0
  · subst h
    exact ⟨5, by decide +kernel⟩
  · refine ⟨5, ?_⟩
    have e1 : spec_InodeNew.f a = some (a, 1, [0, 0]) := by
      unfold spec_InodeNew.f
      rw [if_pos (by decide), hr]
      simp only [Option.bind_some]
      rw [if_neg h]
    have e2 : impl_InodeNew.f a = some (a, 1, [0, 0]) := by
      unfold impl_InodeNew.f
      rw [if_pos (by decide), hr]
      simp only [Option.bind_some]
      rw [if_neg h]
    unfold laws_FnExactInodeNew.f laws_eqInode.f laws_markInode.f laws_heldInode.f
    simp only [e1, e2, Option.bind_some, eq00, mark00, held12, if_true]
    simp
end Go.Proofs.Ytnnjfjomaeleoaa.Pure
