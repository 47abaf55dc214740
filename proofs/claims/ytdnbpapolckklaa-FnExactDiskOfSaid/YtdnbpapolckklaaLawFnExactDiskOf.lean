/- FnExactDiskOf: for every Device the program's DiskOf answers what the reference's does, in memory that is its own, and leaves its argument as it was. No condition. (The printed frame of another row, turned.) -/
import Derived.Test.YtdnbpapolckklaaRows
import Derived.Test.YtdnbpapolckklaaWalkFnExactDiskOf
import Derived.Test.YtdnbpapolckklaaPureFnExactDiskOf
import Derived.Test.YtdnbpapolckklaaOpn
import Derived.WalkKit
import Derived.ProofKit
import Derived.OpenShut
import Derived.ShutString
import Derived.ChangeOld
import Derived.Below
import Derived.SizedLaws
namespace Go.Proofs.Ytdnbpapolckklaa.fnExactDiskOf
open Go.ChangeShapes Go.WideShapes Go.ChangeAt Go.RowKit Go.Proofs.Ytdnbpapolckklaa.PFnExactDiskOf Go.Proofs.YtdnbpapolckklaaW.PrintWords
open Go.ChangeMaps (open_string shut_string)
set_option linter.unusedVariables false
theorem own : ownKnob Try.prog.godebug = none := by kernel_rfl
theorem laidOut : laidOutB Try.prog = true := by kernel_rfl
structure S46 where
  f0 : (List ByteArray)
def z46 : S46 := ⟨([] : List ByteArray)⟩
def k46 : Kd S46 := Kd.iso (Kd.slice 9 Kd.string) (fun x : S46 => x.f0)
theorem k46_open {w : World} {x : S46} {cs : List Value} (h : k46.K w x cs) : ∃ A0 c0, cs = [.slice A0 x.f0.length c0] ∧ x.f0.length ≤ c0 ∧ Kd.string.C w A0 x.f0.length x.f0 := by
  obtain ⟨A0, c0, rfl, l0, g0⟩ := h
  exact ⟨A0, c0, rfl, l0, g0⟩
def good46 (x : S46) : Prop := (x.f0.length * 16 ≤ 140737488351232 ∧ ∀ x0 ∈ x.f0, x0.size ≤ 140737488351232)
theorem walk_all (A : Option Addr) (c : Nat) (l : List ByteArray) (w : World) (g0 : good46 ⟨l⟩) (r : Kd.C Kd.string w A l.length l) (q : l.length ≤ c) :
    Calls Try.prog 4 #[.agg #[.slice A l.length c]] w fun e w' => e = .returned (.bool true) ∧ Below w.heap.size w w' := by
  obtain ⟨k, left, hz, hneg | ⟨hz0, t, a, b, I, B, ok, d, ts, m1, m2, m, e0, e1, e2, e3, ht, hs, hi, he, hd, hk, hd0, h1, h2, h3, hm, hh, z0, z1, z2, z3⟩⟩ := Pure.facts l g0
  · exact laws_FnExactDiskOf.walk_neg k A c l left w ⟨r, q⟩ hz hneg
  · exact laws_FnExactDiskOf.walk_ k A c l left t a b I B ok d ts m1 m2 m e0 e1 e2 e3 w ⟨r, q⟩ hz hz0 ht hs hi he hd hk hd0 h1 h2 h3 hm hh z0 z1 z2 z3
theorem opn46 : Opn.Opn Try.prog 46 k46 good46 :=
  Opn.Opn.imp (show Opn.Opn Try.prog 46 k46 _ from Opn.opn_struct Try.underlying46 (by kernel_rfl) (fun x : S46 => x.f0) (fun a => ⟨a⟩) (fun _ => rfl) (Opn.opnF_one rfl (Opn.opn_slice Try.underlying30 (by kernel_rfl) 16 (by kernel_rfl) (Opn.opn_string Try.underlying9 (by kernel_rfl))))) (fun _ h => h)
set_option maxRecDepth 100000 in
theorem lifted (os : Os) (started : os.Started) (H : Type) (enc : TypeId × Value → H) :
    ReturnsInHanded {} Try.checked os 4 .any (Rows.fnExactDiskOfSpec.pre6 enc Try.prog Try.f4 Rows.fnExactDiskOfRow.domain false) (Rows.fnExactDiskOfSpec.post enc Try.prog Try.f4 false true false false) := by
  refine returnsInHanded_of_change_sized (C := Try.checked) own started (by kernel_rfl) Try.func4
    (ChangeSpec.witness6 (enc := enc) (C := Try.checked) false ⟨#[], #[.agg #[.slice none 0 0]], []⟩ 8 (by kernel_rfl) (by kernel_rfl) (by kernel_rfl) (by kernel_rfl)) ?_
  intro W base args ds gs before hval0 hW hcnd hsz0 _
  have hsz : (DataW.weightsEach Try.prog (Try.f4.params.toList ++ Rows.fnExactDiskOfSpec.plain.varTypes Try.prog) (ds ++ gs)).all (· ≤ reachBytes) = true := hsz0
  have hval : ∀ (j : Nat) t v, Try.f4.params[j]? = some t → args[j]? = some v → Value.okWide Try.prog W .any base t v := hval0
  have hW' := hW
  obtain ⟨p, q, hA0, hV, rfl, hfz, hnd⟩ := hW
  have hA : DataW.TrodAll enc Try.prog W 0 (fun _ => true) true Try.f4.params.toList args.toList ds p := hA0
  rw [Try.params4] at hA hval hsz
  obtain ⟨v0, vs0, d0, ds0, p0, q0, hargs, rfl, rfl, h0, r0⟩ := trodAll_cons hA
  obtain ⟨rfl, rfl, rfl⟩ := trodAll_nil r0
  obtain rfl : args = #[v0] := by cases args; simp_all
  obtain ⟨rfl, rfl⟩ := trodVars_none hV
  have lt0 : ∀ x ∈ p0, x.block < W.heap.size := by obtain ⟨m, hm⟩ := h0; exact DataW.trod_lt m _ _ _ hm
  obtain ⟨x0, cs0, rfl, hk0, g0⟩ := Opn.Opn.arg_struct opn46 Try.underlying46 (hval 0 46 v0 rfl rfl) h0 (Opn.weights_of hsz (j := 0) rfl rfl)
  obtain ⟨A0_0, c0_0, rfl, l0_0, r0_0⟩ := k46_open hk0
  clear hA0 hval0 hsz0 hsz
  refine (walk_all _ _ x0.f0 W g0 r0_0 l0_0).mono fun e W' ⟨he, bel⟩ => ?_
  subst he
  exact ⟨_, rfl, _, _, _, [], _, [], hW', trodAll_mk1 (shut_bool Try.underlying4 _), (trodAll_cons_mk (Below.trod laidOut (by kernel_rfl) (of_decide_eq_true (by kernel_rfl)) h0 bel lt0) trodAll_mk0), rfl, bel.frame _, fun h => by cases h⟩
theorem over : Rows.fnExactDiskOfRow.holds Try.pinned (OpenSpec.ofChange Rows.fnExactDiskOfSpec) :=
  OpenClaim.holds_of_wide 4 Try.f4 rfl rfl rfl rfl rfl rfl rfl ⟨rfl, rfl, rfl, rfl, rfl⟩ rfl rfl rfl rfl rfl (by kernel_rfl) Try.func4 (by kernel_rfl)
    (of_decide_eq_true (by kernel_rfl)) (by unfold Func.isWrapper; first | (rw [if_pos (by decide +kernel)]; kernel_rfl) | (rw [if_neg (by decide +kernel)]; exact ⟨rfl, rfl⟩))
    (fun os started H enc _ => lifted os started H enc)
theorem proved : Rows.FnExactDiskOfSaid := over
#print axioms proved
end Go.Proofs.Ytdnbpapolckklaa.fnExactDiskOf
namespace Go.Proofs.Ytdnbpapolckklaa
/-- The row, under a short name, for the claim. -/
theorem fnExactDiskOf_holds : Rows.FnExactDiskOfSaid := fnExactDiskOf.proved
end Go.Proofs.Ytdnbpapolckklaa
