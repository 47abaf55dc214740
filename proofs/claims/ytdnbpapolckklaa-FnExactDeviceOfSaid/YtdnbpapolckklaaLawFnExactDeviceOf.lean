/- FnExactDeviceOf: for every Disk the program's DeviceOf answers what the reference's does, in memory that is its own, and leaves its argument as it was. No condition. (The printed frame of another row, turned.) -/
import Derived.Test.YtdnbpapolckklaaRows
import Derived.Test.YtdnbpapolckklaaWalkFnExactDeviceOf
import Derived.Test.YtdnbpapolckklaaPureFnExactDeviceOf
import Derived.Test.YtdnbpapolckklaaOpn
import Derived.WalkKit
import Derived.ProofKit
import Derived.OpenShut
import Derived.ShutString
import Derived.ChangeOld
import Derived.Below
import Derived.SizedLaws
namespace Go.Proofs.Ytdnbpapolckklaa.fnExactDeviceOf
open Go.ChangeShapes Go.WideShapes Go.ChangeAt Go.RowKit Go.Proofs.Ytdnbpapolckklaa.PFnExactDeviceOf Go.Proofs.YtdnbpapolckklaaW.PrintWords
open Go.ChangeMaps (open_string shut_string)
set_option linter.unusedVariables false
theorem own : ownKnob Try.prog.godebug = none := by kernel_rfl
theorem laidOut : laidOutB Try.prog = true := by kernel_rfl
theorem opn24 : Opn.Opn Try.prog 24 k24 good24 :=
  Opn.Opn.imp (show Opn.Opn Try.prog 24 k24 _ from Opn.opn_struct Try.underlying24 (by kernel_rfl) (fun x : S24 => (x.f0, x.f1)) (fun a => ⟨a.1, a.2⟩) (fun _ => rfl) (Opn.opnF_cons rfl (Opn.opn_slice Try.underlying22 (by kernel_rfl) 1 (by kernel_rfl) (Opn.opn_bool Try.underlying4 (by kernel_rfl))) (Opn.opnF_one rfl (Opn.opn_slice Try.underlying22 (by kernel_rfl) 1 (by kernel_rfl) (Opn.opn_bool Try.underlying4 (by kernel_rfl)))))) (fun _ h => h)
theorem opn142 : Opn.Opn Try.prog 142 k142 good142 :=
  Opn.Opn.imp (show Opn.Opn Try.prog 142 k142 _ from Opn.opn_struct Try.underlying142 (by kernel_rfl) (fun x : S142 => (x.f0, x.f1, x.f2)) (fun a => ⟨a.1, a.2.1, a.2.2⟩) (fun _ => rfl) (Opn.opnF_cons rfl (Opn.opn_int Try.underlying3 (by kernel_rfl)) (Opn.opnF_cons rfl (Opn.opn_int Try.underlying3 (by kernel_rfl)) (Opn.opnF_one rfl (Opn.opn_slice Try.underlying103 (by kernel_rfl) 8 (by kernel_rfl) (Opn.opn_int Try.underlying3 (by kernel_rfl))))))) (fun _ h => h)
theorem opn151 : Opn.Opn Try.prog 151 k151 good151 :=
  Opn.Opn.imp (show Opn.Opn Try.prog 151 k151 _ from Opn.opn_struct Try.underlying151 (by kernel_rfl) (fun x : S151 => (x.f0, x.f1)) (fun a => ⟨a.1, a.2⟩) (fun _ => rfl) (Opn.opnF_cons rfl (Opn.opn_string Try.underlying9 (by kernel_rfl)) (Opn.opnF_one rfl (Opn.opn_int Try.underlying3 (by kernel_rfl))))) (fun _ h => h)
theorem opn54 : Opn.Opn Try.prog 54 k54 good54 :=
  Opn.Opn.imp (show Opn.Opn Try.prog 54 k54 _ from Opn.opn_struct Try.underlying54 (by kernel_rfl) (fun x : S54 => (x.f0, x.f1, x.f2)) (fun a => ⟨a.1, a.2.1, a.2.2⟩) (fun _ => rfl) (Opn.opnF_cons rfl (Opn.opn_bool Try.underlying4 (by kernel_rfl)) (Opn.opnF_cons rfl (Opn.opn_slice Try.underlying52 (by kernel_rfl) 24 (by kernel_rfl) opn151) (Opn.opnF_one rfl (Opn.opn_string Try.underlying9 (by kernel_rfl)))))) (fun _ h => h)
theorem opn28 : Opn.Opn Try.prog 28 k28 good28 :=
  Opn.Opn.imp (show Opn.Opn Try.prog 28 k28 _ from Opn.opn_struct Try.underlying28 (by kernel_rfl) (fun x : S28 => (x.f0, x.f1, x.f2)) (fun a => ⟨a.1, a.2.1, a.2.2⟩) (fun _ => rfl) (Opn.opnF_cons rfl opn24 (Opn.opnF_cons rfl (Opn.opn_slice Try.underlying25 (by kernel_rfl) 40 (by kernel_rfl) opn142) (Opn.opnF_one rfl (Opn.opn_slice Try.underlying26 (by kernel_rfl) 48 (by kernel_rfl) opn54))))) (fun _ h => h)
theorem walk_all (A0 : Option Addr) (c0 : Nat) (l0 : List Bool) (A1 : Option Addr) (c1 : Nat) (l1 : List Bool) (A2 : Option Addr) (c2 : Nat) (l2 : List S142) (A3 : Option Addr) (c3 : Nat) (l3 : List S54) (w : World) (g0 : good28 ⟨⟨l0, l1⟩, l2, l3⟩) (r0 : Kd.C Kd.bool w A0 l0.length l0) (q0 : l0.length ≤ c0) (r1 : Kd.C Kd.bool w A1 l1.length l1) (q1 : l1.length ≤ c1) (r2 : Kd.C k142 w A2 l2.length l2) (q2 : l2.length ≤ c2) (r3 : Kd.C k54 w A3 l3.length l3) (q3 : l3.length ≤ c3) :
    Calls Try.prog 3 #[.agg #[.slice A0 l0.length c0, .slice A1 l1.length c1, .slice A2 l2.length c2, .slice A3 l3.length c3]] w fun e w' => e = .returned (.bool true) ∧ Below w.heap.size w w' := by
  obtain ⟨k, left, hz, hneg | ⟨hz0, t0, t1, t2, t3, ws, b1, m1, m2, m, e0, e1, e2, e3, d, rs, h1, h2, h3, h4, h5, h6, h7, h8, h9, h10, h11, h12, h13⟩⟩ := Pure.facts l0 l1 l2 l3 g0
  · exact laws_FnExactDeviceOf.walk_neg k A0 c0 l0 A1 c1 l1 A2 c2 l2 A3 c3 l3 left w ⟨⟨r0, q0⟩, ⟨r1, q1⟩, ⟨r2, q2⟩, ⟨r3, q3⟩⟩ hz hneg
  · exact laws_FnExactDeviceOf.walk_ k A0 c0 l0 A1 c1 l1 A2 c2 l2 A3 c3 l3 left t0 t1 t2 t3 ws b1 m1 m2 m e0 e1 e2 e3 d rs w ⟨⟨r0, q0⟩, ⟨r1, q1⟩, ⟨r2, q2⟩, ⟨r3, q3⟩⟩ hz hz0 h1 h2 h3 h4 h5 h6 h7 h8 h9 h10 h11 h12 h13
set_option maxRecDepth 100000 in
theorem lifted (os : Os) (started : os.Started) (H : Type) (enc : TypeId × Value → H) :
    ReturnsInHanded {} Try.checked os 3 .any (Rows.fnExactDeviceOfSpec.pre6 enc Try.prog Try.f3 Rows.fnExactDeviceOfRow.domain false) (Rows.fnExactDeviceOfSpec.post enc Try.prog Try.f3 false true false false) := by
  refine returnsInHanded_of_change_sized (C := Try.checked) own started (by kernel_rfl) Try.func3
    (ChangeSpec.witness6 (enc := enc) (C := Try.checked) false ⟨#[], #[.agg #[.slice none 0 0, .slice none 0 0, .slice none 0 0, .slice none 0 0]], []⟩ 8 (by kernel_rfl) (by kernel_rfl) (by kernel_rfl) (by kernel_rfl)) ?_
  intro W base args ds gs before hval0 hW hcnd hsz0 _
  have hsz : (DataW.weightsEach Try.prog (Try.f3.params.toList ++ Rows.fnExactDeviceOfSpec.plain.varTypes Try.prog) (ds ++ gs)).all (· ≤ reachBytes) = true := hsz0
  have hval : ∀ (j : Nat) t v, Try.f3.params[j]? = some t → args[j]? = some v → Value.okWide Try.prog W .any base t v := hval0
  have hW' := hW
  obtain ⟨p, q, hA0, hV, rfl, hfz, hnd⟩ := hW
  have hA : DataW.TrodAll enc Try.prog W 0 (fun _ => true) true Try.f3.params.toList args.toList ds p := hA0
  rw [Try.params3] at hA hval hsz
  obtain ⟨v0, vs0, d0, ds0, p0, q0, hargs, rfl, rfl, h0, r0⟩ := trodAll_cons hA
  obtain ⟨rfl, rfl, rfl⟩ := trodAll_nil r0
  obtain rfl : args = #[v0] := by cases args; simp_all
  obtain ⟨rfl, rfl⟩ := trodVars_none hV
  have lt0 : ∀ x ∈ p0, x.block < W.heap.size := by obtain ⟨m, hm⟩ := h0; exact DataW.trod_lt m _ _ _ hm
  obtain ⟨x0, cs0, rfl, hk0, g0⟩ := Opn.Opn.arg_struct opn28 Try.underlying28 (hval 0 28 v0 rfl rfl) h0 (Opn.weights_of hsz (j := 0) rfl rfl)
  obtain ⟨A0_0, c0_0, A0_1, c0_1, A0_2, c0_2, A0_3, c0_3, rfl, l0_0, r0_0, l0_1, r0_1, l0_2, r0_2, l0_3, r0_3⟩ := k28_open hk0
  clear hA0 hval0 hsz0 hsz
  refine (walk_all _ _ x0.f0.f0 _ _ x0.f0.f1 _ _ x0.f1 _ _ x0.f2 W g0 r0_0 l0_0 r0_1 l0_1 r0_2 l0_2 r0_3 l0_3).mono fun e W' ⟨he, bel⟩ => ?_
  subst he
  exact ⟨_, rfl, _, _, _, [], _, [], hW', trodAll_mk1 (shut_bool Try.underlying4 _), (trodAll_cons_mk (Below.trod laidOut (by kernel_rfl) (of_decide_eq_true (by kernel_rfl)) h0 bel lt0) trodAll_mk0), rfl, bel.frame _, fun h => by cases h⟩
theorem over : Rows.fnExactDeviceOfRow.holds Try.pinned (OpenSpec.ofChange Rows.fnExactDeviceOfSpec) :=
  OpenClaim.holds_of_wide 3 Try.f3 rfl rfl rfl rfl rfl rfl rfl ⟨rfl, rfl, rfl, rfl, rfl⟩ rfl rfl rfl rfl rfl (by kernel_rfl) Try.func3 (by kernel_rfl)
    (of_decide_eq_true (by kernel_rfl)) (by unfold Func.isWrapper; first | (rw [if_pos (by decide +kernel)]; kernel_rfl) | (rw [if_neg (by decide +kernel)]; exact ⟨rfl, rfl⟩))
    (fun os started H enc _ => lifted os started H enc)
theorem proved : Rows.FnExactDeviceOfSaid := over
#print axioms proved
end Go.Proofs.Ytdnbpapolckklaa.fnExactDeviceOf
namespace Go.Proofs.Ytdnbpapolckklaa
/-- The row, under a short name, for the claim. -/
theorem fnExactDeviceOf_holds : Rows.FnExactDeviceOfSaid := fnExactDeviceOf.proved
end Go.Proofs.Ytdnbpapolckklaa
