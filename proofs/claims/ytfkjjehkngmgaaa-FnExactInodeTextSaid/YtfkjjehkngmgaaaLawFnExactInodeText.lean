-- Written by a program of this session (a changed copy of the kit's print: wip/print2). Lean checks it.
import Derived.Test.YtfkjjehkngmgaaaRows
import Derived.Test.YtfkjjehkngmgaaaPFnExactInodeTextx3
import Derived.Test.YtfkjjehkngmgaaaPureFnExactInodeText
import Derived.Test.YtfkjjehkngmgaaaOpn
import Derived.WalkKit
import Derived.ProofKit
import Derived.OpenShut
import Derived.ShutString
import Derived.ChangeOld
import Derived.Below
import Derived.SizedLaws
namespace Go.Proofs.Ytfkjjehkngmgaaa.fnExactInodeText
open Go.ChangeShapes Go.WideShapes Go.ChangeAt Go.RowKit Go.Proofs.Ytfkjjehkngmgaaa.PFnExactInodeText Go.Proofs.YtfkjjehkngmgaaaW.PrintWords
open Go.ChangeMaps (open_string shut_string)
set_option linter.unusedVariables false
theorem own : ownKnob Try.prog.godebug = none := by kernel_rfl
theorem laidOut : laidOutB Try.prog = true := by kernel_rfl
theorem opn48 : Opn.Opn Try.prog 48 k48 good48 :=
  Opn.Opn.imp (show Opn.Opn Try.prog 48 k48 _ from Opn.opn_struct Try.underlying48 (by kernel_rfl) (fun x : S48 => (x.f0, x.f1, x.f2)) (fun a => ⟨a.1, a.2.1, a.2.2⟩) (fun _ => rfl) (Opn.opnF_cons rfl (Opn.opn_int Try.underlying3 (by kernel_rfl)) (Opn.opnF_cons rfl (Opn.opn_int Try.underlying3 (by kernel_rfl)) (Opn.opnF_one rfl (Opn.opn_slice Try.underlying31 (by kernel_rfl) 8 (by kernel_rfl) (Opn.opn_int Try.underlying3 (by kernel_rfl))))))) (fun _ h => h)
set_option maxRecDepth 100000 in
theorem lifted (os : Os) (started : os.Started) (H : Type) (enc : TypeId × Value → H) :
    ReturnsInHanded {} Try.checked os 6 .any (Rows.fnExactInodeTextSpec.pre6 enc Try.prog Try.f6 Rows.fnExactInodeTextRow.domain false) (Rows.fnExactInodeTextSpec.post enc Try.prog Try.f6 false true false false) := by
  refine returnsInHanded_of_change_sized (C := Try.checked) own started (by kernel_rfl) Try.func6
    (ChangeSpec.witness6 (enc := enc) (C := Try.checked) false ⟨#[], #[.agg #[.int .i64 0, .int .i64 0, .slice none 0 0]], []⟩ 8 (by kernel_rfl) (by kernel_rfl) (by kernel_rfl) (by kernel_rfl)) ?_
  intro W base args ds gs before hval0 hW hcnd hsz0 _
  have hsz : (DataW.weightsEach Try.prog (Try.f6.params.toList ++ Rows.fnExactInodeTextSpec.plain.varTypes Try.prog) (ds ++ gs)).all (· ≤ reachBytes) = true := hsz0
  have hval : ∀ (j : Nat) t v, Try.f6.params[j]? = some t → args[j]? = some v → Value.okWide Try.prog W .any base t v := hval0
  have hW' := hW
  obtain ⟨p, q, hA0, hV, rfl, hfz, hnd⟩ := hW
  have hA : DataW.TrodAll enc Try.prog W 0 (fun _ => true) true Try.f6.params.toList args.toList ds p := hA0
  rw [Try.params6] at hA hval hsz
  obtain ⟨v0, vs0, d0, ds0, p0, q0, hargs, rfl, rfl, h0, r0⟩ := trodAll_cons hA
  obtain ⟨rfl, rfl, rfl⟩ := trodAll_nil r0
  obtain rfl : args = #[v0] := by cases args; simp_all
  obtain ⟨rfl, rfl⟩ := trodVars_none hV
  have lt0 : ∀ x ∈ p0, x.block < W.heap.size := by obtain ⟨m, hm⟩ := h0; exact DataW.trod_lt m _ _ _ hm
  obtain ⟨x0, cs0, rfl, hk0, g0⟩ := Opn.Opn.arg_struct opn48 Try.underlying48 (hval 0 48 v0 rfl rfl) h0 (Opn.weights_of hsz (j := 0) rfl rfl)
  obtain ⟨A0_2, c0_2, rfl, l0_2, r0_2⟩ := k48_open hk0
  clear hA0 hval0 hsz0 hsz
  refine (PFnExactInodeText.laws_FnExactInodeText.walk Pure.FnExactInodeText x0.f0 x0.f1 _ _ x0.f2 W g0 r0_2 l0_2).mono fun e W' ⟨he, bel⟩ => ?_
  subst he
  exact ⟨_, rfl, _, _, _, [], _, [], hW', trodAll_mk1 (shut_bool Try.underlying4 _), (trodAll_cons_mk (Below.trod laidOut (by kernel_rfl) (of_decide_eq_true (by kernel_rfl)) h0 bel lt0) trodAll_mk0), rfl, bel.frame _, fun h => by cases h⟩
theorem over : Rows.fnExactInodeTextRow.holds Try.pinned (OpenSpec.ofChange Rows.fnExactInodeTextSpec) :=
  OpenClaim.holds_of_wide 6 Try.f6 rfl rfl rfl rfl rfl rfl rfl ⟨rfl, rfl, rfl, rfl, rfl⟩ rfl rfl rfl rfl rfl (by kernel_rfl) Try.func6 (by kernel_rfl)
    (of_decide_eq_true (by kernel_rfl)) (by unfold Func.isWrapper; first | (rw [if_pos (by decide +kernel)]; kernel_rfl) | (rw [if_neg (by decide +kernel)]; exact ⟨rfl, rfl⟩))
    (fun os started H enc _ => lifted os started H enc)
theorem proved : Rows.FnExactInodeTextSaid := over
#print axioms proved
end Go.Proofs.Ytfkjjehkngmgaaa.fnExactInodeText
namespace Go.Proofs.Ytfkjjehkngmgaaa
/-- The row, under a short name, for the claim. -/
theorem fnExactInodeText_holds : Rows.FnExactInodeTextSaid := fnExactInodeText.proved
end Go.Proofs.Ytfkjjehkngmgaaa
