-- Written by a program of this session (a changed copy of the kit's print: wip/print2). Lean checks it.
import Derived.Test.YtnnjfjomaeleoaaRows
import Derived.Test.YtnnjfjomaeleoaaPFnExactDeviceOkx2
import Derived.Test.YtnnjfjomaeleoaaPureFnExactDeviceOk
import Derived.Test.YtnnjfjomaeleoaaOpn
import Derived.WalkKit
import Derived.ProofKit
import Derived.OpenShut
import Derived.ShutString
import Derived.ChangeOld
import Derived.Below
import Derived.SizedLaws
namespace Go.Proofs.Ytnnjfjomaeleoaa.fnExactDeviceOk
open Go.ChangeShapes Go.WideShapes Go.ChangeAt Go.RowKit Go.Proofs.Ytnnjfjomaeleoaa.PFnExactDeviceOk Go.Proofs.YtnnjfjomaeleoaaW.PrintWords
open Go.ChangeMaps (open_string shut_string)
set_option linter.unusedVariables false
theorem own : ownKnob Try.prog.godebug = none := by kernel_rfl
theorem laidOut : laidOutB Try.prog = true := by kernel_rfl
theorem opn57 : Opn.Opn Try.prog 57 k57 good57 :=
  Opn.Opn.imp (show Opn.Opn Try.prog 57 k57 _ from Opn.opn_struct Try.underlying57 (by kernel_rfl) (fun x : S57 => x.f0) (fun a => ⟨a⟩) (fun _ => rfl) (Opn.opnF_one rfl (Opn.opn_slice Try.underlying55 (by kernel_rfl) 16 (by kernel_rfl) (Opn.opn_string Try.underlying9 (by kernel_rfl))))) (fun _ h => h)
set_option maxRecDepth 100000 in
theorem lifted (os : Os) (started : os.Started) (H : Type) (enc : TypeId × Value → H) :
    ReturnsInHanded {} Try.checked os 13 .any (Rows.fnExactDeviceOkSpec.pre6 enc Try.prog Try.f13 Rows.fnExactDeviceOkRow.domain false) (Rows.fnExactDeviceOkSpec.post enc Try.prog Try.f13 false true false false) := by
  refine returnsInHanded_of_change_sized (C := Try.checked) own started (by kernel_rfl) Try.func13
    (ChangeSpec.witness6 (enc := enc) (C := Try.checked) false ⟨#[], #[.agg #[.slice none 0 0]], []⟩ 8 (by kernel_rfl) (by kernel_rfl) (by kernel_rfl) (by kernel_rfl)) ?_
  intro W base args ds gs before hval0 hW hcnd hsz0 _
  have hsz : (DataW.weightsEach Try.prog (Try.f13.params.toList ++ Rows.fnExactDeviceOkSpec.plain.varTypes Try.prog) (ds ++ gs)).all (· ≤ reachBytes) = true := hsz0
  have hval : ∀ (j : Nat) t v, Try.f13.params[j]? = some t → args[j]? = some v → Value.okWide Try.prog W .any base t v := hval0
  have hW' := hW
  obtain ⟨p, q, hA0, hV, rfl, hfz, hnd⟩ := hW
  have hA : DataW.TrodAll enc Try.prog W 0 (fun _ => true) true Try.f13.params.toList args.toList ds p := hA0
  rw [Try.params13] at hA hval hsz
  obtain ⟨v0, vs0, d0, ds0, p0, q0, hargs, rfl, rfl, h0, r0⟩ := trodAll_cons hA
  obtain ⟨rfl, rfl, rfl⟩ := trodAll_nil r0
  obtain rfl : args = #[v0] := by cases args; simp_all
  obtain ⟨rfl, rfl⟩ := trodVars_none hV
  have lt0 : ∀ x ∈ p0, x.block < W.heap.size := by obtain ⟨m, hm⟩ := h0; exact DataW.trod_lt m _ _ _ hm
  obtain ⟨x0, cs0, rfl, hk0, g0⟩ := Opn.Opn.arg_struct opn57 Try.underlying57 (hval 0 57 v0 rfl rfl) h0 (Opn.weights_of hsz (j := 0) rfl rfl)
  obtain ⟨A0_0, c0_0, rfl, l0_0, r0_0⟩ := k57_open hk0
  clear hA0 hval0 hsz0 hsz
  refine (PFnExactDeviceOk.laws_FnExactDeviceOk.walk Pure.FnExactDeviceOk _ _ x0.f0 W g0 r0_0 l0_0).mono fun e W' ⟨he, bel⟩ => ?_
  subst he
  exact ⟨_, rfl, _, _, _, [], _, [], hW', trodAll_mk1 (shut_bool Try.underlying4 _), (trodAll_cons_mk (Below.trod laidOut (by kernel_rfl) (of_decide_eq_true (by kernel_rfl)) h0 bel lt0) trodAll_mk0), rfl, bel.frame _, fun h => by cases h⟩
theorem over : Rows.fnExactDeviceOkRow.holds Try.pinned (OpenSpec.ofChange Rows.fnExactDeviceOkSpec) :=
  OpenClaim.holds_of_wide 13 Try.f13 rfl rfl rfl rfl rfl rfl rfl ⟨rfl, rfl, rfl, rfl, rfl⟩ rfl rfl rfl rfl rfl (by kernel_rfl) Try.func13 (by kernel_rfl)
    (of_decide_eq_true (by kernel_rfl)) (by unfold Func.isWrapper; first | (rw [if_pos (by decide +kernel)]; kernel_rfl) | (rw [if_neg (by decide +kernel)]; exact ⟨rfl, rfl⟩))
    (fun os started H enc _ => lifted os started H enc)
theorem proved : Rows.FnExactDeviceOkSaid := over
#print axioms proved
end Go.Proofs.Ytnnjfjomaeleoaa.fnExactDeviceOk
namespace Go.Proofs.Ytnnjfjomaeleoaa
/-- The row, under a short name, for the claim. -/
theorem fnExactDeviceOk_holds : Rows.FnExactDeviceOkSaid := fnExactDeviceOk.proved
end Go.Proofs.Ytnnjfjomaeleoaa
