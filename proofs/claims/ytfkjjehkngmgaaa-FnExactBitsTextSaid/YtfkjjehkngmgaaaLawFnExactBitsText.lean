-- Written by a program of this session (a changed copy of the kit's print: wip/print2). Lean checks it.
import Derived.Test.YtfkjjehkngmgaaaRows
import Derived.Test.YtfkjjehkngmgaaaPFnExactBitsTextx3
import Derived.Test.YtfkjjehkngmgaaaPureFnExactBitsText
import Derived.Test.YtfkjjehkngmgaaaOpn
import Derived.WalkKit
import Derived.ProofKit
import Derived.OpenShut
import Derived.ShutString
import Derived.ChangeOld
import Derived.Below
import Derived.SizedLaws
namespace Go.Proofs.Ytfkjjehkngmgaaa.fnExactBitsText
open Go.ChangeShapes Go.WideShapes Go.ChangeAt Go.RowKit Go.Proofs.Ytfkjjehkngmgaaa.PFnExactBitsText Go.Proofs.YtfkjjehkngmgaaaW.PrintWords
open Go.ChangeMaps (open_string shut_string)
set_option linter.unusedVariables false
theorem own : ownKnob Try.prog.godebug = none := by kernel_rfl
theorem laidOut : laidOutB Try.prog = true := by kernel_rfl
theorem opn61 : Opn.Opn Try.prog 61 k61 good61 :=
  Opn.Opn.imp (show Opn.Opn Try.prog 61 k61 _ from Opn.opn_struct Try.underlying61 (by kernel_rfl) (fun x : S61 => (x.f0, x.f1)) (fun a => ⟨a.1, a.2⟩) (fun _ => rfl) (Opn.opnF_cons rfl (Opn.opn_slice Try.underlying40 (by kernel_rfl) 1 (by kernel_rfl) (Opn.opn_bool Try.underlying4 (by kernel_rfl))) (Opn.opnF_one rfl (Opn.opn_slice Try.underlying40 (by kernel_rfl) 1 (by kernel_rfl) (Opn.opn_bool Try.underlying4 (by kernel_rfl)))))) (fun _ h => h)
set_option maxRecDepth 100000 in
theorem lifted (os : Os) (started : os.Started) (H : Type) (enc : TypeId × Value → H) :
    ReturnsInHanded {} Try.checked os 9 .any (Rows.fnExactBitsTextSpec.pre6 enc Try.prog Try.f9 Rows.fnExactBitsTextRow.domain false) (Rows.fnExactBitsTextSpec.post enc Try.prog Try.f9 false true false false) := by
  refine returnsInHanded_of_change_sized (C := Try.checked) own started (by kernel_rfl) Try.func9
    (ChangeSpec.witness6 (enc := enc) (C := Try.checked) false ⟨#[], #[.agg #[.slice none 0 0, .slice none 0 0]], []⟩ 8 (by kernel_rfl) (by kernel_rfl) (by kernel_rfl) (by kernel_rfl)) ?_
  intro W base args ds gs before hval0 hW hcnd hsz0 _
  have hsz : (DataW.weightsEach Try.prog (Try.f9.params.toList ++ Rows.fnExactBitsTextSpec.plain.varTypes Try.prog) (ds ++ gs)).all (· ≤ reachBytes) = true := hsz0
  have hval : ∀ (j : Nat) t v, Try.f9.params[j]? = some t → args[j]? = some v → Value.okWide Try.prog W .any base t v := hval0
  have hW' := hW
  obtain ⟨p, q, hA0, hV, rfl, hfz, hnd⟩ := hW
  have hA : DataW.TrodAll enc Try.prog W 0 (fun _ => true) true Try.f9.params.toList args.toList ds p := hA0
  rw [Try.params9] at hA hval hsz
  obtain ⟨v0, vs0, d0, ds0, p0, q0, hargs, rfl, rfl, h0, r0⟩ := trodAll_cons hA
  obtain ⟨rfl, rfl, rfl⟩ := trodAll_nil r0
  obtain rfl : args = #[v0] := by cases args; simp_all
  obtain ⟨rfl, rfl⟩ := trodVars_none hV
  have lt0 : ∀ x ∈ p0, x.block < W.heap.size := by obtain ⟨m, hm⟩ := h0; exact DataW.trod_lt m _ _ _ hm
  obtain ⟨x0, cs0, rfl, hk0, g0⟩ := Opn.Opn.arg_struct opn61 Try.underlying61 (hval 0 61 v0 rfl rfl) h0 (Opn.weights_of hsz (j := 0) rfl rfl)
  obtain ⟨A0_0, c0_0, A0_1, c0_1, rfl, l0_0, r0_0, l0_1, r0_1⟩ := k61_open hk0
  clear hA0 hval0 hsz0 hsz
  refine (PFnExactBitsText.laws_FnExactBitsText.walk Pure.FnExactBitsText _ _ x0.f0 _ _ x0.f1 W g0 r0_0 l0_0 r0_1 l0_1).mono fun e W' ⟨he, bel⟩ => ?_
  subst he
  exact ⟨_, rfl, _, _, _, [], _, [], hW', trodAll_mk1 (shut_bool Try.underlying4 _), (trodAll_cons_mk (Below.trod laidOut (by kernel_rfl) (of_decide_eq_true (by kernel_rfl)) h0 bel lt0) trodAll_mk0), rfl, bel.frame _, fun h => by cases h⟩
theorem over : Rows.fnExactBitsTextRow.holds Try.pinned (OpenSpec.ofChange Rows.fnExactBitsTextSpec) :=
  OpenClaim.holds_of_wide 9 Try.f9 rfl rfl rfl rfl rfl rfl rfl ⟨rfl, rfl, rfl, rfl, rfl⟩ rfl rfl rfl rfl rfl (by kernel_rfl) Try.func9 (by kernel_rfl)
    (of_decide_eq_true (by kernel_rfl)) (by unfold Func.isWrapper; first | (rw [if_pos (by decide +kernel)]; kernel_rfl) | (rw [if_neg (by decide +kernel)]; exact ⟨rfl, rfl⟩))
    (fun os started H enc _ => lifted os started H enc)
theorem proved : Rows.FnExactBitsTextSaid := over
#print axioms proved
end Go.Proofs.Ytfkjjehkngmgaaa.fnExactBitsText
namespace Go.Proofs.Ytfkjjehkngmgaaa
/-- The row, under a short name, for the claim. -/
theorem fnExactBitsText_holds : Rows.FnExactBitsTextSaid := fnExactBitsText.proved
end Go.Proofs.Ytfkjjehkngmgaaa
