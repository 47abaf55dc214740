-- Written by a program of this session (a changed copy of the kit's print: wip/print2). Lean checks it.
import Derived.Test.YtdnbpapolckklaaRows
import Derived.Test.YtdnbpapolckklaaPFnExactBlockTextx7
import Derived.Test.YtdnbpapolckklaaPureFnExactBlockText
import Derived.Test.YtdnbpapolckklaaOpn
import Derived.WalkKit
import Derived.ProofKit
import Derived.OpenShut
import Derived.ShutString
import Derived.ChangeOld
import Derived.Below
import Derived.SizedLaws
namespace Go.Proofs.Ytdnbpapolckklaa.fnExactBlockText
open Go.ChangeShapes Go.WideShapes Go.ChangeAt Go.RowKit Go.Proofs.Ytdnbpapolckklaa.PFnExactBlockText Go.Proofs.YtdnbpapolckklaaW.PrintWords
open Go.ChangeMaps (open_string shut_string)
set_option linter.unusedVariables false
theorem own : ownKnob Try.prog.godebug = none := by kernel_rfl
theorem laidOut : laidOutB Try.prog = true := by kernel_rfl
theorem opn151 : Opn.Opn Try.prog 151 k151 good151 :=
  Opn.Opn.imp (show Opn.Opn Try.prog 151 k151 _ from Opn.opn_struct Try.underlying151 (by kernel_rfl) (fun x : S151 => (x.f0, x.f1)) (fun a => ⟨a.1, a.2⟩) (fun _ => rfl) (Opn.opnF_cons rfl (Opn.opn_string Try.underlying9 (by kernel_rfl)) (Opn.opnF_one rfl (Opn.opn_int Try.underlying3 (by kernel_rfl))))) (fun _ h => h)
theorem opn54 : Opn.Opn Try.prog 54 k54 good54 :=
  Opn.Opn.imp (show Opn.Opn Try.prog 54 k54 _ from Opn.opn_struct Try.underlying54 (by kernel_rfl) (fun x : S54 => (x.f0, x.f1, x.f2)) (fun a => ⟨a.1, a.2.1, a.2.2⟩) (fun _ => rfl) (Opn.opnF_cons rfl (Opn.opn_bool Try.underlying4 (by kernel_rfl)) (Opn.opnF_cons rfl (Opn.opn_slice Try.underlying52 (by kernel_rfl) 24 (by kernel_rfl) opn151) (Opn.opnF_one rfl (Opn.opn_string Try.underlying9 (by kernel_rfl)))))) (fun _ h => h)
set_option maxRecDepth 100000 in
theorem lifted (os : Os) (started : os.Started) (H : Type) (enc : TypeId × Value → H) :
    ReturnsInHanded {} Try.checked os 8 .any (Rows.fnExactBlockTextSpec.pre6 enc Try.prog Try.f8 Rows.fnExactBlockTextRow.domain false) (Rows.fnExactBlockTextSpec.post enc Try.prog Try.f8 false true false false) := by
  refine returnsInHanded_of_change_sized (C := Try.checked) own started (by kernel_rfl) Try.func8
    (ChangeSpec.witness6 (enc := enc) (C := Try.checked) false ⟨#[], #[.agg #[.bool false, .slice none 0 0, .string ByteArray.empty]], []⟩ 8 (by kernel_rfl) (by kernel_rfl) (by kernel_rfl) (by kernel_rfl)) ?_
  intro W base args ds gs before hval0 hW hcnd hsz0 _
  have hsz : (DataW.weightsEach Try.prog (Try.f8.params.toList ++ Rows.fnExactBlockTextSpec.plain.varTypes Try.prog) (ds ++ gs)).all (· ≤ reachBytes) = true := hsz0
  have hval : ∀ (j : Nat) t v, Try.f8.params[j]? = some t → args[j]? = some v → Value.okWide Try.prog W .any base t v := hval0
  have hW' := hW
  obtain ⟨p, q, hA0, hV, rfl, hfz, hnd⟩ := hW
  have hA : DataW.TrodAll enc Try.prog W 0 (fun _ => true) true Try.f8.params.toList args.toList ds p := hA0
  rw [Try.params8] at hA hval hsz
  obtain ⟨v0, vs0, d0, ds0, p0, q0, hargs, rfl, rfl, h0, r0⟩ := trodAll_cons hA
  obtain ⟨rfl, rfl, rfl⟩ := trodAll_nil r0
  obtain rfl : args = #[v0] := by cases args; simp_all
  obtain ⟨rfl, rfl⟩ := trodVars_none hV
  have lt0 : ∀ x ∈ p0, x.block < W.heap.size := by obtain ⟨m, hm⟩ := h0; exact DataW.trod_lt m _ _ _ hm
  obtain ⟨x0, cs0, rfl, hk0, g0⟩ := Opn.Opn.arg_struct opn54 Try.underlying54 (hval 0 54 v0 rfl rfl) h0 (Opn.weights_of hsz (j := 0) rfl rfl)
  obtain ⟨A0_1, c0_1, rfl, l0_1, r0_1⟩ := k54_open hk0
  clear hA0 hval0 hsz0 hsz
  refine (PFnExactBlockText.laws_FnExactBlockText.walk Pure.FnExactBlockText x0.f0 _ _ x0.f1 x0.f2 W g0 r0_1 l0_1).mono fun e W' ⟨he, bel⟩ => ?_
  subst he
  exact ⟨_, rfl, _, _, _, [], _, [], hW', trodAll_mk1 (shut_bool Try.underlying4 _), (trodAll_cons_mk (Below.trod laidOut (by kernel_rfl) (of_decide_eq_true (by kernel_rfl)) h0 bel lt0) trodAll_mk0), rfl, bel.frame _, fun h => by cases h⟩
theorem over : Rows.fnExactBlockTextRow.holds Try.pinned (OpenSpec.ofChange Rows.fnExactBlockTextSpec) :=
  OpenClaim.holds_of_wide 8 Try.f8 rfl rfl rfl rfl rfl rfl rfl ⟨rfl, rfl, rfl, rfl, rfl⟩ rfl rfl rfl rfl rfl (by kernel_rfl) Try.func8 (by kernel_rfl)
    (of_decide_eq_true (by kernel_rfl)) (by unfold Func.isWrapper; first | (rw [if_pos (by decide +kernel)]; kernel_rfl) | (rw [if_neg (by decide +kernel)]; exact ⟨rfl, rfl⟩))
    (fun os started H enc _ => lifted os started H enc)
theorem proved : Rows.FnExactBlockTextSaid := over
#print axioms proved
end Go.Proofs.Ytdnbpapolckklaa.fnExactBlockText
namespace Go.Proofs.Ytdnbpapolckklaa
/-- The row, under a short name, for the claim. -/
theorem fnExactBlockText_holds : Rows.FnExactBlockTextSaid := fnExactBlockText.proved
end Go.Proofs.Ytdnbpapolckklaa
