-- Written by a program of this session (a changed copy of the kit's print: wip/print2). Lean checks it.
import Derived.Test.YtnnjfjomaeleoaaRows
import Derived.Test.YtnnjfjomaeleoaaPFnExactInodeOkx2
import Derived.Test.YtnnjfjomaeleoaaPureFnExactInodeOk
import Derived.Test.YtnnjfjomaeleoaaOpn
import Derived.WalkKit
import Derived.ProofKit
import Derived.OpenShut
import Derived.ShutString
import Derived.ChangeOld
import Derived.Below
import Derived.SizedLaws
namespace Go.Proofs.Ytnnjfjomaeleoaa.fnExactInodeOk
open Go.ChangeShapes Go.WideShapes Go.ChangeAt Go.RowKit Go.Proofs.Ytnnjfjomaeleoaa.PFnExactInodeOk Go.Proofs.YtnnjfjomaeleoaaW.PrintWords
open Go.ChangeMaps (open_string shut_string)
set_option linter.unusedVariables false
theorem own : ownKnob Try.prog.godebug = none := by kernel_rfl
theorem laidOut : laidOutB Try.prog = true := by kernel_rfl
theorem opn64 : Opn.Opn Try.prog 64 k64 good64 :=
  Opn.Opn.imp (show Opn.Opn Try.prog 64 k64 _ from Opn.opn_struct Try.underlying64 (by kernel_rfl) (fun x : S64 => (x.f0, x.f1, x.f2)) (fun a => ⟨a.1, a.2.1, a.2.2⟩) (fun _ => rfl) (Opn.opnF_cons rfl (Opn.opn_int Try.underlying3 (by kernel_rfl)) (Opn.opnF_cons rfl (Opn.opn_int Try.underlying3 (by kernel_rfl)) (Opn.opnF_one rfl (Opn.opn_slice Try.underlying33 (by kernel_rfl) 8 (by kernel_rfl) (Opn.opn_int Try.underlying3 (by kernel_rfl))))))) (fun _ h => h)
set_option maxRecDepth 100000 in
theorem lifted (os : Os) (started : os.Started) (H : Type) (enc : TypeId × Value → H) :
    ReturnsInHanded {} Try.checked os 14 .any (Rows.fnExactInodeOkSpec.pre6 enc Try.prog Try.f14 Rows.fnExactInodeOkRow.domain false) (Rows.fnExactInodeOkSpec.post enc Try.prog Try.f14 false true false false) := by
  refine returnsInHanded_of_change_sized (C := Try.checked) own started (by kernel_rfl) Try.func14
    (ChangeSpec.witness6 (enc := enc) (C := Try.checked) false ⟨#[], #[.agg #[.int .i64 0, .int .i64 0, .slice none 0 0]], []⟩ 8 (by kernel_rfl) (by kernel_rfl) (by kernel_rfl) (by kernel_rfl)) ?_
  intro W base args ds gs before hval0 hW hcnd hsz0 _
  have hsz : (DataW.weightsEach Try.prog (Try.f14.params.toList ++ Rows.fnExactInodeOkSpec.plain.varTypes Try.prog) (ds ++ gs)).all (· ≤ reachBytes) = true := hsz0
  have hval : ∀ (j : Nat) t v, Try.f14.params[j]? = some t → args[j]? = some v → Value.okWide Try.prog W .any base t v := hval0
  have hW' := hW
  obtain ⟨p, q, hA0, hV, rfl, hfz, hnd⟩ := hW
  have hA : DataW.TrodAll enc Try.prog W 0 (fun _ => true) true Try.f14.params.toList args.toList ds p := hA0
  rw [Try.params14] at hA hval hsz
  obtain ⟨v0, vs0, d0, ds0, p0, q0, hargs, rfl, rfl, h0, r0⟩ := trodAll_cons hA
  obtain ⟨rfl, rfl, rfl⟩ := trodAll_nil r0
  obtain rfl : args = #[v0] := by cases args; simp_all
  obtain ⟨rfl, rfl⟩ := trodVars_none hV
  have lt0 : ∀ x ∈ p0, x.block < W.heap.size := by obtain ⟨m, hm⟩ := h0; exact DataW.trod_lt m _ _ _ hm
  obtain ⟨x0, cs0, rfl, hk0, g0⟩ := Opn.Opn.arg_struct opn64 Try.underlying64 (hval 0 64 v0 rfl rfl) h0 (Opn.weights_of hsz (j := 0) rfl rfl)
  obtain ⟨A0_2, c0_2, rfl, l0_2, r0_2⟩ := k64_open hk0
  clear hA0 hval0 hsz0 hsz
  refine (PFnExactInodeOk.laws_FnExactInodeOk.walk Pure.FnExactInodeOk x0.f0 x0.f1 _ _ x0.f2 W g0 r0_2 l0_2).mono fun e W' ⟨he, bel⟩ => ?_
  subst he
  exact ⟨_, rfl, _, _, _, [], _, [], hW', trodAll_mk1 (shut_bool Try.underlying4 _), (trodAll_cons_mk (Below.trod laidOut (by kernel_rfl) (of_decide_eq_true (by kernel_rfl)) h0 bel lt0) trodAll_mk0), rfl, bel.frame _, fun h => by cases h⟩
theorem over : Rows.fnExactInodeOkRow.holds Try.pinned (OpenSpec.ofChange Rows.fnExactInodeOkSpec) :=
  OpenClaim.holds_of_wide 14 Try.f14 rfl rfl rfl rfl rfl rfl rfl ⟨rfl, rfl, rfl, rfl, rfl⟩ rfl rfl rfl rfl rfl (by kernel_rfl) Try.func14 (by kernel_rfl)
    (of_decide_eq_true (by kernel_rfl)) (by unfold Func.isWrapper; first | (rw [if_pos (by decide +kernel)]; kernel_rfl) | (rw [if_neg (by decide +kernel)]; exact ⟨rfl, rfl⟩))
    (fun os started H enc _ => lifted os started H enc)
theorem proved : Rows.FnExactInodeOkSaid := over
#print axioms proved
end Go.Proofs.Ytnnjfjomaeleoaa.fnExactInodeOk
namespace Go.Proofs.Ytnnjfjomaeleoaa
/-- The row, under a short name, for the claim. -/
theorem fnExactInodeOk_holds : Rows.FnExactInodeOkSaid := fnExactInodeOk.proved
end Go.Proofs.Ytnnjfjomaeleoaa
