-- Written by a program of this session (a changed copy of the kit's print: wip/print2). Lean checks it.
import Derived.Test.YtdnbpapolckklaaRows
import Derived.Test.YtdnbpapolckklaaPFnExactSameDiskx11
import Derived.Test.YtdnbpapolckklaaPureFnExactSameDisk
import Derived.Test.YtdnbpapolckklaaOpn
import Derived.WalkKit
import Derived.ProofKit
import Derived.OpenShut
import Derived.ShutString
import Derived.ChangeOld
import Derived.Below
import Derived.SizedLaws
namespace Go.Proofs.Ytdnbpapolckklaa.fnExactSameDisk
open Go.ChangeShapes Go.WideShapes Go.ChangeAt Go.RowKit Go.Proofs.Ytdnbpapolckklaa.PFnExactSameDisk Go.Proofs.YtdnbpapolckklaaW.PrintWords
open Go.ChangeMaps (open_string shut_string)
set_option linter.unusedVariables false
theorem own : ownKnob Try.prog.godebug = none := by kernel_rfl
theorem laidOut : laidOutB Try.prog = true := by kernel_rfl
theorem opn24 : Opn.Opn Try.prog 24 k24 good24 :=
  Opn.Opn.imp (show Opn.Opn Try.prog 24 k24 _ from Opn.opn_struct Try.underlying24 (by kernel_rfl) (fun x : S24 => (x.f0, x.f1)) (fun a => ⟨a.1, a.2⟩) (fun _ => rfl) (Opn.opnF_cons rfl (Opn.opn_slice Try.underlying22 (by kernel_rfl) 1 (by kernel_rfl) (Opn.opn_bool Try.underlying4 (by kernel_rfl))) (Opn.opnF_one rfl (Opn.opn_slice Try.underlying22 (by kernel_rfl) 1 (by kernel_rfl) (Opn.opn_bool Try.underlying4 (by kernel_rfl)))))) (fun _ h => h)
theorem opn142 : Opn.Opn Try.prog 142 k142 good142 :=
  Opn.Opn.imp (show Opn.Opn Try.prog 142 k142 _ from Opn.opn_struct Try.underlying142 (by kernel_rfl) (fun x : S142 => (x.f0, x.f1, x.f2)) (fun a => ⟨a.1, a.2.1, a.2.2⟩) (fun _ => rfl) (Opn.opnF_cons rfl (Opn.opn_int Try.underlying3 (by kernel_rfl)) (Opn.opnF_cons rfl (Opn.opn_int Try.underlying3 (by kernel_rfl)) (Opn.opnF_one rfl (Opn.opn_slice Try.underlying103 (by kernel_rfl) 8 (by kernel_rfl) (Opn.opn_int Try.underlying3 (by kernel_rfl))))))) (fun _ h => h)
theorem opn151 : Opn.Opn Try.prog 151 k151 good151 :=
  Opn.Opn.imp (show Opn.Opn Try.prog 151 k151 _ from Opn.opn_struct Try.underlying151 (by kernel_rfl) (fun x : S151 => (x.f0, x.f1)) (fun a => ⟨a.1, a.2⟩) (fun _ => rfl) (Opn.opnF_cons rfl (Opn.opn_string Try.underlying9 (by kernel_rfl)) (Opn.opnF_one rfl (Opn.opn_int Try.underlying3 (by kernel_rfl))))) (fun _ h => h)
theorem opn54 : Opn.Opn Try.prog 54 k54 good54 :=
  Opn.Opn.imp (show Opn.Opn Try.prog 54 k54 _ from Opn.opn_struct Try.underlying54 (by kernel_rfl) (fun x : S54 => (x.f0, x.f1, x.f2)) (fun a => ⟨a.1, a.2.1, a.2.2⟩) (fun _ => rfl) (Opn.opnF_cons rfl (Opn.opn_bool Try.underlying4 (by kernel_rfl)) (Opn.opnF_cons rfl (Opn.opn_slice Try.underlying52 (by kernel_rfl) 24 (by kernel_rfl) opn151) (Opn.opnF_one rfl (Opn.opn_string Try.underlying9 (by kernel_rfl)))))) (fun _ h => h)
theorem opn28 : Opn.Opn Try.prog 28 k28 good28 :=
  Opn.Opn.imp (show Opn.Opn Try.prog 28 k28 _ from Opn.opn_struct Try.underlying28 (by kernel_rfl) (fun x : S28 => (x.f0, x.f1, x.f2)) (fun a => ⟨a.1, a.2.1, a.2.2⟩) (fun _ => rfl) (Opn.opnF_cons rfl opn24 (Opn.opnF_cons rfl (Opn.opn_slice Try.underlying25 (by kernel_rfl) 40 (by kernel_rfl) opn142) (Opn.opnF_one rfl (Opn.opn_slice Try.underlying26 (by kernel_rfl) 48 (by kernel_rfl) opn54))))) (fun _ h => h)
set_option maxRecDepth 100000 in
theorem lifted (os : Os) (started : os.Started) (H : Type) (enc : TypeId × Value → H) :
    ReturnsInHanded {} Try.checked os 11 .any (Rows.fnExactSameDiskSpec.pre6 enc Try.prog Try.f11 Rows.fnExactSameDiskRow.domain false) (Rows.fnExactSameDiskSpec.post enc Try.prog Try.f11 false true false false) := by
  refine returnsInHanded_of_change_sized (C := Try.checked) own started (by kernel_rfl) Try.func11
    (ChangeSpec.witness6 (enc := enc) (C := Try.checked) false ⟨#[], #[.agg #[.slice none 0 0, .slice none 0 0, .slice none 0 0, .slice none 0 0], .agg #[.slice none 0 0, .slice none 0 0, .slice none 0 0, .slice none 0 0]], []⟩ 8 (by kernel_rfl) (by kernel_rfl) (by kernel_rfl) (by kernel_rfl)) ?_
  intro W base args ds gs before hval0 hW hcnd hsz0 _
  have hsz : (DataW.weightsEach Try.prog (Try.f11.params.toList ++ Rows.fnExactSameDiskSpec.plain.varTypes Try.prog) (ds ++ gs)).all (· ≤ reachBytes) = true := hsz0
  have hval : ∀ (j : Nat) t v, Try.f11.params[j]? = some t → args[j]? = some v → Value.okWide Try.prog W .any base t v := hval0
  have hW' := hW
  obtain ⟨p, q, hA0, hV, rfl, hfz, hnd⟩ := hW
  have hA : DataW.TrodAll enc Try.prog W 0 (fun _ => true) true Try.f11.params.toList args.toList ds p := hA0
  rw [Try.params11] at hA hval hsz
  obtain ⟨v0, vs0, d0, ds0, p0, q0, hargs, rfl, rfl, h0, r0⟩ := trodAll_cons hA
  obtain ⟨v1, vs1, d1, ds1, p1, q1, rfl, rfl, rfl, h1, r1⟩ := trodAll_cons r0
  obtain ⟨rfl, rfl, rfl⟩ := trodAll_nil r1
  obtain rfl : args = #[v0, v1] := by cases args; simp_all
  obtain ⟨rfl, rfl⟩ := trodVars_none hV
  have lt0 : ∀ x ∈ p0, x.block < W.heap.size := by obtain ⟨m, hm⟩ := h0; exact DataW.trod_lt m _ _ _ hm
  obtain ⟨x0, cs0, rfl, hk0, g0⟩ := Opn.Opn.arg_struct opn28 Try.underlying28 (hval 0 28 v0 rfl rfl) h0 (Opn.weights_of hsz (j := 0) rfl rfl)
  obtain ⟨A0_0, c0_0, A0_1, c0_1, A0_2, c0_2, A0_3, c0_3, rfl, l0_0, r0_0, l0_1, r0_1, l0_2, r0_2, l0_3, r0_3⟩ := k28_open hk0
  have lt1 : ∀ x ∈ p1, x.block < W.heap.size := by obtain ⟨m, hm⟩ := h1; exact DataW.trod_lt m _ _ _ hm
  obtain ⟨x1, cs1, rfl, hk1, g1⟩ := Opn.Opn.arg_struct opn28 Try.underlying28 (hval 1 28 v1 rfl rfl) h1 (Opn.weights_of hsz (j := 1) rfl rfl)
  obtain ⟨A1_0, c1_0, A1_1, c1_1, A1_2, c1_2, A1_3, c1_3, rfl, l1_0, r1_0, l1_1, r1_1, l1_2, r1_2, l1_3, r1_3⟩ := k28_open hk1
  clear hA0 hval0 hsz0 hsz
  refine (PFnExactSameDisk.laws_FnExactSameDisk.walk Pure.FnExactSameDisk _ _ x0.f0.f0 _ _ x0.f0.f1 _ _ x0.f1 _ _ x0.f2 _ _ x1.f0.f0 _ _ x1.f0.f1 _ _ x1.f1 _ _ x1.f2 W g0 g1 r0_0 l0_0 r0_1 l0_1 r0_2 l0_2 r0_3 l0_3 r1_0 l1_0 r1_1 l1_1 r1_2 l1_2 r1_3 l1_3).mono fun e W' ⟨he, bel⟩ => ?_
  subst he
  exact ⟨_, rfl, _, _, _, [], _, [], hW', trodAll_mk1 (shut_bool Try.underlying4 _), (trodAll_cons_mk (Below.trod laidOut (by kernel_rfl) (of_decide_eq_true (by kernel_rfl)) h0 bel lt0) (trodAll_cons_mk (Below.trod laidOut (by kernel_rfl) (of_decide_eq_true (by kernel_rfl)) h1 bel lt1) trodAll_mk0)), rfl, bel.frame _, fun h => by cases h⟩
theorem over : Rows.fnExactSameDiskRow.holds Try.pinned (OpenSpec.ofChange Rows.fnExactSameDiskSpec) :=
  OpenClaim.holds_of_wide 11 Try.f11 rfl rfl rfl rfl rfl rfl rfl ⟨rfl, rfl, rfl, rfl, rfl⟩ rfl rfl rfl rfl rfl (by kernel_rfl) Try.func11 (by kernel_rfl)
    (of_decide_eq_true (by kernel_rfl)) (by unfold Func.isWrapper; first | (rw [if_pos (by decide +kernel)]; kernel_rfl) | (rw [if_neg (by decide +kernel)]; exact ⟨rfl, rfl⟩))
    (fun os started H enc _ => lifted os started H enc)
theorem proved : Rows.FnExactSameDiskSaid := over
#print axioms proved
end Go.Proofs.Ytdnbpapolckklaa.fnExactSameDisk
namespace Go.Proofs.Ytdnbpapolckklaa
/-- The row, under a short name, for the claim. -/
theorem fnExactSameDisk_holds : Rows.FnExactSameDiskSaid := fnExactSameDisk.proved
end Go.Proofs.Ytdnbpapolckklaa
