-- Written by a program of this session (a changed copy of the kit's print: wip/print2). Lean checks it.
import Derived.Test.YtmkcpkhhlbmgcaaRows
import Derived.Test.YtmkcpkhhlbmgcaaPFnExactDepAtx9
import Derived.Test.YtmkcpkhhlbmgcaaPureFnExactDepAt
import Derived.Test.YtmkcpkhhlbmgcaaOpn
import Derived.WalkKit
import Derived.ProofKit
import Derived.OpenShut
import Derived.ShutString
import Derived.ChangeOld
import Derived.Below
import Derived.SizedLaws
namespace Go.Proofs.Ytmkcpkhhlbmgcaa.fnExactDepAt
open Go.ChangeShapes Go.WideShapes Go.ChangeAt Go.RowKit Go.Proofs.Ytmkcpkhhlbmgcaa.PFnExactDepAt Go.Proofs.YtmkcpkhhlbmgcaaW.PrintWords
open Go.ChangeMaps (open_string shut_string)
set_option linter.unusedVariables false
theorem own : ownKnob Try.prog.godebug = none := by kernel_rfl
theorem laidOut : laidOutB Try.prog = true := by kernel_rfl
theorem opn24 : Opn.Opn Try.prog 24 k24 good24 :=
  Opn.Opn.imp (show Opn.Opn Try.prog 24 k24 _ from Opn.opn_struct Try.underlying24 (by kernel_rfl) (fun x : S24 => (x.f0, x.f1)) (fun a => ⟨a.1, a.2⟩) (fun _ => rfl) (Opn.opnF_cons rfl (Opn.opn_slice Try.underlying22 (by kernel_rfl) 1 (by kernel_rfl) (Opn.opn_bool Try.underlying4 (by kernel_rfl))) (Opn.opnF_one rfl (Opn.opn_slice Try.underlying22 (by kernel_rfl) 1 (by kernel_rfl) (Opn.opn_bool Try.underlying4 (by kernel_rfl)))))) (fun _ h => h)
theorem opn75 : Opn.Opn Try.prog 75 k75 good75 :=
  Opn.Opn.imp (show Opn.Opn Try.prog 75 k75 _ from Opn.opn_struct Try.underlying75 (by kernel_rfl) (fun x : S75 => (x.f0, x.f1, x.f2)) (fun a => ⟨a.1, a.2.1, a.2.2⟩) (fun _ => rfl) (Opn.opnF_cons rfl (Opn.opn_int Try.underlying3 (by kernel_rfl)) (Opn.opnF_cons rfl (Opn.opn_int Try.underlying3 (by kernel_rfl)) (Opn.opnF_one rfl (Opn.opn_slice Try.underlying48 (by kernel_rfl) 8 (by kernel_rfl) (Opn.opn_int Try.underlying3 (by kernel_rfl))))))) (fun _ h => h)
theorem opn96 : Opn.Opn Try.prog 96 k96 good96 :=
  Opn.Opn.imp (show Opn.Opn Try.prog 96 k96 _ from Opn.opn_struct Try.underlying96 (by kernel_rfl) (fun x : S96 => (x.f0, x.f1)) (fun a => ⟨a.1, a.2⟩) (fun _ => rfl) (Opn.opnF_cons rfl (Opn.opn_string Try.underlying9 (by kernel_rfl)) (Opn.opnF_one rfl (Opn.opn_int Try.underlying3 (by kernel_rfl))))) (fun _ h => h)
theorem opn79 : Opn.Opn Try.prog 79 k79 good79 :=
  Opn.Opn.imp (show Opn.Opn Try.prog 79 k79 _ from Opn.opn_struct Try.underlying79 (by kernel_rfl) (fun x : S79 => (x.f0, x.f1, x.f2)) (fun a => ⟨a.1, a.2.1, a.2.2⟩) (fun _ => rfl) (Opn.opnF_cons rfl (Opn.opn_bool Try.underlying4 (by kernel_rfl)) (Opn.opnF_cons rfl (Opn.opn_slice Try.underlying77 (by kernel_rfl) 24 (by kernel_rfl) opn96) (Opn.opnF_one rfl (Opn.opn_string Try.underlying9 (by kernel_rfl)))))) (fun _ h => h)
theorem opn28 : Opn.Opn Try.prog 28 k28 good28 :=
  Opn.Opn.imp (show Opn.Opn Try.prog 28 k28 _ from Opn.opn_struct Try.underlying28 (by kernel_rfl) (fun x : S28 => (x.f0, x.f1, x.f2)) (fun a => ⟨a.1, a.2.1, a.2.2⟩) (fun _ => rfl) (Opn.opnF_cons rfl opn24 (Opn.opnF_cons rfl (Opn.opn_slice Try.underlying25 (by kernel_rfl) 40 (by kernel_rfl) opn75) (Opn.opnF_one rfl (Opn.opn_slice Try.underlying26 (by kernel_rfl) 48 (by kernel_rfl) opn79))))) (fun _ h => h)
theorem opn64 : Opn.Opn Try.prog 64 k64 good64 :=
  Opn.Opn.imp (show Opn.Opn Try.prog 64 k64 _ from Opn.opn_struct Try.underlying64 (by kernel_rfl) (fun x : S64 => (x.f0, x.f1, x.f2, x.f3, x.f4, x.f5, x.f6, x.f7, x.f8, x.f9, x.f10)) (fun a => ⟨a.1, a.2.1, a.2.2.1, a.2.2.2.1, a.2.2.2.2.1, a.2.2.2.2.2.1, a.2.2.2.2.2.2.1, a.2.2.2.2.2.2.2.1, a.2.2.2.2.2.2.2.2.1, a.2.2.2.2.2.2.2.2.2.1, a.2.2.2.2.2.2.2.2.2.2⟩) (fun _ => rfl) (Opn.opnF_cons rfl (Opn.opn_int Try.underlying3 (by kernel_rfl)) (Opn.opnF_cons rfl (Opn.opn_int Try.underlying3 (by kernel_rfl)) (Opn.opnF_cons rfl (Opn.opn_int Try.underlying3 (by kernel_rfl)) (Opn.opnF_cons rfl (Opn.opn_int Try.underlying3 (by kernel_rfl)) (Opn.opnF_cons rfl (Opn.opn_int Try.underlying3 (by kernel_rfl)) (Opn.opnF_cons rfl (Opn.opn_int Try.underlying3 (by kernel_rfl)) (Opn.opnF_cons rfl (Opn.opn_string Try.underlying9 (by kernel_rfl)) (Opn.opnF_cons rfl (Opn.opn_bool Try.underlying4 (by kernel_rfl)) (Opn.opnF_cons rfl (Opn.opn_bool Try.underlying4 (by kernel_rfl)) (Opn.opnF_cons rfl (Opn.opn_int Try.underlying3 (by kernel_rfl)) (Opn.opnF_one rfl (Opn.opn_slice Try.underlying48 (by kernel_rfl) 8 (by kernel_rfl) (Opn.opn_int Try.underlying3 (by kernel_rfl))))))))))))))) (fun _ h => h)
theorem opn31 : Opn.Opn Try.prog 31 k31 good31 :=
  Opn.Opn.imp (show Opn.Opn Try.prog 31 k31 _ from Opn.opn_struct Try.underlying31 (by kernel_rfl) (fun x : S31 => (x.f0, x.f1, x.f2, x.f3)) (fun a => ⟨a.1, a.2.1, a.2.2.1, a.2.2.2⟩) (fun _ => rfl) (Opn.opnF_cons rfl opn28 (Opn.opnF_cons rfl (Opn.opn_slice Try.underlying22 (by kernel_rfl) 1 (by kernel_rfl) (Opn.opn_bool Try.underlying4 (by kernel_rfl))) (Opn.opnF_cons rfl (Opn.opn_slice Try.underlying29 (by kernel_rfl) 104 (by kernel_rfl) opn64) (Opn.opnF_one rfl (Opn.opn_int Try.underlying3 (by kernel_rfl))))))) (fun _ h => h)
set_option maxRecDepth 100000 in
theorem lifted (os : Os) (started : os.Started) (H : Type) (enc : TypeId × Value → H) :
    ReturnsInHanded {} Try.checked os 3 .any (Rows.fnExactDepAtSpec.pre6 enc Try.prog Try.f3 Rows.fnExactDepAtRow.domain false) (Rows.fnExactDepAtSpec.post enc Try.prog Try.f3 false true false false) := by
  refine returnsInHanded_of_change_sized (C := Try.checked) own started (by kernel_rfl) Try.func3
    (ChangeSpec.witness6 (enc := enc) (C := Try.checked) false ⟨#[], #[.agg #[.slice none 0 0, .slice none 0 0, .slice none 0 0, .slice none 0 0, .slice none 0 0, .slice none 0 0, .int .i64 0], .int .i64 0, .int .i64 0], []⟩ 8 (by kernel_rfl) (by kernel_rfl) (by kernel_rfl) (by kernel_rfl)) ?_
  intro W base args ds gs before hval0 hW hcnd hsz0 _
  have hsz : (DataW.weightsEach Try.prog (Try.f3.params.toList ++ Rows.fnExactDepAtSpec.plain.varTypes Try.prog) (ds ++ gs)).all (· ≤ reachBytes) = true := hsz0
  have hval : ∀ (j : Nat) t v, Try.f3.params[j]? = some t → args[j]? = some v → Value.okWide Try.prog W .any base t v := hval0
  have hW' := hW
  obtain ⟨p, q, hA0, hV, rfl, hfz, hnd⟩ := hW
  have hA : DataW.TrodAll enc Try.prog W 0 (fun _ => true) true Try.f3.params.toList args.toList ds p := hA0
  rw [Try.params3] at hA hval hsz
  obtain ⟨v0, vs0, d0, ds0, p0, q0, hargs, rfl, rfl, h0, r0⟩ := trodAll_cons hA
  obtain ⟨v1, vs1, d1, ds1, p1, q1, rfl, rfl, rfl, h1, r1⟩ := trodAll_cons r0
  obtain ⟨v2, vs2, d2, ds2, p2, q2, rfl, rfl, rfl, h2, r2⟩ := trodAll_cons r1
  obtain ⟨rfl, rfl, rfl⟩ := trodAll_nil r2
  obtain rfl : args = #[v0, v1, v2] := by cases args; simp_all
  obtain ⟨rfl, rfl⟩ := trodVars_none hV
  have lt0 : ∀ x ∈ p0, x.block < W.heap.size := by obtain ⟨m, hm⟩ := h0; exact DataW.trod_lt m _ _ _ hm
  obtain ⟨x0, cs0, rfl, hk0, g0⟩ := Opn.Opn.arg_struct opn31 Try.underlying31 (hval 0 31 v0 rfl rfl) h0 (Opn.weights_of hsz (j := 0) rfl rfl)
  obtain ⟨A0_0, c0_0, A0_1, c0_1, A0_2, c0_2, A0_3, c0_3, A0_4, c0_4, A0_5, c0_5, rfl, l0_0, r0_0, l0_1, r0_1, l0_2, r0_2, l0_3, r0_3, l0_4, r0_4, l0_5, r0_5⟩ := k31_open hk0
  obtain ⟨a1, rfl, rfl, rfl, w1⟩ := open_int Try.underlying3 (hval 1 3 v1 rfl rfl) h1
  obtain ⟨a2, rfl, rfl, rfl, w2⟩ := open_int Try.underlying3 (hval 2 3 v2 rfl rfl) h2
  clear hA0 hval0 hsz0 hsz
  refine (PFnExactDepAt.laws_FnExactDepAt.walk Pure.FnExactDepAt _ _ x0.f0.f0.f0 _ _ x0.f0.f0.f1 _ _ x0.f0.f1 _ _ x0.f0.f2 _ _ x0.f1 _ _ x0.f2 x0.f3 a1 a2 W g0 w1 w2 r0_0 l0_0 r0_1 l0_1 r0_2 l0_2 r0_3 l0_3 r0_4 l0_4 r0_5 l0_5).mono fun e W' ⟨he, bel⟩ => ?_
  subst he
  exact ⟨_, rfl, _, _, _, [], _, [], hW', trodAll_mk1 (shut_bool Try.underlying4 _), (trodAll_cons_mk (Below.trod laidOut (by kernel_rfl) (of_decide_eq_true (by kernel_rfl)) h0 bel lt0) (trodAll_cons_mk (shut_int Try.underlying3 w1) (trodAll_cons_mk (shut_int Try.underlying3 w2) trodAll_mk0))), rfl, bel.frame _, fun h => by cases h⟩
theorem over : Rows.fnExactDepAtRow.holds Try.pinned (OpenSpec.ofChange Rows.fnExactDepAtSpec) :=
  OpenClaim.holds_of_wide 3 Try.f3 rfl rfl rfl rfl rfl rfl rfl ⟨rfl, rfl, rfl, rfl, rfl⟩ rfl rfl rfl rfl rfl (by kernel_rfl) Try.func3 (by kernel_rfl)
    (of_decide_eq_true (by kernel_rfl)) (by unfold Func.isWrapper; first | (rw [if_pos (by decide +kernel)]; kernel_rfl) | (rw [if_neg (by decide +kernel)]; exact ⟨rfl, rfl⟩))
    (fun os started H enc _ => lifted os started H enc)
theorem proved : Rows.FnExactDepAtSaid := over
#print axioms proved
end Go.Proofs.Ytmkcpkhhlbmgcaa.fnExactDepAt
namespace Go.Proofs.Ytmkcpkhhlbmgcaa
/-- The row, under a short name, for the claim. -/
theorem fnExactDepAt_holds : Rows.FnExactDepAtSaid := fnExactDepAt.proved
end Go.Proofs.Ytmkcpkhhlbmgcaa
