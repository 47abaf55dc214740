-- Written by a program of this session (a changed copy of the kit's print: wip/print2). Lean checks it.
import Derived.Test.YtdnbpapolckklaaPax
import Derived.Test.YtdnbpapolckklaaPFnExactDiskOfx0
import Derived.Test.YtdnbpapolckklaaPFnExactDiskOfx21
import Derived.Test.YtdnbpapolckklaaPFnExactDiskOfx22
namespace Go.Proofs.Ytdnbpapolckklaa.PFnExactDiskOf
open Go.RowKit Go.Proofs.YtdnbpapolckklaaW.PrintWords Go.Proofs.YtdnbpapolckklaaW.PrintLast Go.Proofs.YtdnbpapolckklaaW.PrintMore
attribute [local go_sem] max2_int min2_int max_two min_two max_three min_three max_four min_four   -- for this text's walks alone
attribute [local go_sem] Go.Proofs.Ytdnbpapolckklaa.Pad.isSome_setCell
set_option linter.unusedVariables false
set_option linter.unusedSimpArgs false

/-! ### laws_heldDisk: function 27 -/
def laws_heldDisk.f (k : Nat) (l0_0 : List Bool) (l0_1 : List Bool) (l0_2 : List (S105)) (l0_3 : List (S59)) (a1 : Int) : Option (Int) := (laws_heldBits.f k l0_0 l0_1 a1).bind fun t433 => (if t433 < 0 then (some (-1)) else ((laws_heldInodeS.f k l0_2 t433).bind fun t434 => (if t434 < 0 then (some (-1)) else ((laws_heldBlockS.f k l0_3 t434).bind fun t435 => (if t435 < 0 then (some (-1)) else (some t435))))))
set_option maxHeartbeats 8000000 in
set_option maxRecDepth 100000 in
theorem laws_heldDisk.calls (k : Nat) (A0_0 : Option Addr) (c0_0 : Nat) (l0_0 : List Bool) (A0_1 : Option Addr) (c0_1 : Nat) (l0_1 : List Bool) (A0_2 : Option Addr) (c0_2 : Nat) (l0_2 : List (S105)) (A0_3 : Option Addr) (c0_3 : Nat) (l0_3 : List (S59)) (a1 : Int) (r : Int) (w : World) (hr0_0 : Kd.C Kd.bool w A0_0 l0_0.length l0_0) (hc0_0 : l0_0.length ≤ c0_0) (hr0_1 : Kd.C Kd.bool w A0_1 l0_1.length l0_1) (hc0_1 : l0_1.length ≤ c0_1) (hr0_2 : Kd.C k105 w A0_2 l0_2.length l0_2) (hc0_2 : l0_2.length ≤ c0_2) (hr0_3 : Kd.C k59 w A0_3 l0_3.length l0_3) (hc0_3 : l0_3.length ≤ c0_3) (h : laws_heldDisk.f k l0_0 l0_1 l0_2 l0_3 a1 = some r) :
  Calls Try.prog 27 #[.agg #[.slice A0_0 l0_0.length c0_0, .slice A0_1 l0_1.length c0_1, .slice A0_2 l0_2.length c0_2, .slice A0_3 l0_3.length c0_3], .int .i64 a1] w fun e w' => e = .returned (.int .i64 r) ∧ Below w.heap.size w w' := by
 have hu39 := Try.underlying39
 have hu35 := Try.underlying35
 have HR0_0 := vA hr0_0
 have HC0_0 := vA hc0_0
 clear hr0_0 hc0_0
 have HR0_1 := vA hr0_1
 have HC0_1 := vA hc0_1
 clear hr0_1 hc0_1
 have HR0_2 := vA hr0_2
 have HC0_2 := vA hc0_2
 clear hr0_2 hc0_2
 have HR0_3 := vA hr0_3
 have HC0_3 := vA hc0_3
 clear hr0_3 hc0_3
 have HB := vA (Below.refl w.heap.size w)
 have H : ((laws_heldBits.f k l0_0 l0_1 a1).bind fun t433 => (if t433 < 0 then (some (-1)) else ((laws_heldInodeS.f k l0_2 t433).bind fun t434 => (if t434 < 0 then (some (-1)) else ((laws_heldBlockS.f k l0_3 t434).bind fun t435 => (if t435 < 0 then (some (-1)) else (some t435))))))) = some r := h
 clear h
 replace H := Option.bind_eq_some_iff.mp H
 obtain ⟨t433, A30, H⟩ := H
 have A3 := vA A30
 clear A30
 go_enter Try.func27, Try.ntmps27
 go_wp2_with (first | ((with_reducible refine gate_dst (N := 2) rfl ?_); refine vx (N := 2) (cs := #[.slice A0_0 l0_0.length c0_0, .slice A0_1 l0_1.length c0_1, .slice A0_2 l0_2.length c0_2, .slice A0_3 l0_3.length c0_3]) (t := 39) ?_; intro gb432 hg w4 hbox hb; have BK432 := vA (hbox); have GW432 := vA ((vg hg (qb HB.out))); have GE432 := GW432; replace HB := vbs HB hb; clear hb hbox hg; obtain ⟨hcz5_0, hcz5_1, hcz5_2, hcz5_3⟩ := v4c BK432.out; obtain ⟨hfz5_0, hfz5_1, hfz5_2, hfz5_3⟩ := v4f BK432.out) | ((with_reducible refine gate_callee (f := 85) rfl ?_); refine goesL_ (some 8) rfl rfl Try.func85 (by kernel_rfl) rfl #[.agg #[.slice A0_0 l0_0.length c0_0, .slice A0_1 l0_1.length c0_1], .int .i64 a1] rfl qm ?_; (with_reducible refine (laws_heldBits.calls k _ _ l0_0 _ _ l0_1 a1 t433 _ (vc HR0_0 HB) HC0_0.out (vc HR0_1 HB) HC0_1.out A3.out).mono ?_)))
 first | rintro e w6 rfl hb | rintro e w6 ⟨rfl, hb⟩
 refine ⟨_, rfl, ?_⟩
 replace BK432 := vw BK432 hb
 replace HB := vbs HB hb
 (try clear hb)
 (try clear hb2)
 (try clear hk)
 (try clear hi)
 by_cases c7 : t433 < 0
 ·rw [if_pos c7] at H
  have c7b0 : decide (t433 < 0) = true := decide_eq_true c7; clear c7; obtain rfl := Option.some.inj H
  go_wp2
  go_ret
  exact ⟨qe, qb1 HB.out GE432.out⟩
 ·rw [if_neg c7] at H
  have c7b0 : decide (t433 < 0) = false := decide_eq_false c7; clear c7; replace H := Option.bind_eq_some_iff.mp H; obtain ⟨t434, A80, H⟩ := H; have A8 := vA A80; clear A80; obtain ⟨hcz9_0, hcz9_1, hcz9_2, hcz9_3⟩ := v4c BK432.out; obtain ⟨hfz9_0, hfz9_1, hfz9_2, hfz9_3⟩ := v4f BK432.out
  go_wp2_with (first | ((with_reducible refine gate_callee (f := 86) rfl ?_); refine goesL_ (some 14) rfl rfl Try.func86 (by kernel_rfl) rfl #[.slice A0_2 l0_2.length c0_2, .int .i64 t433] rfl qm ?_; (with_reducible refine (laws_heldInodeS.calls k _ _ l0_2 t433 t434 _ (vc HR0_2 HB) HC0_2.out A8.out).mono ?_)))
  first | rintro e w' rfl ⟨nd, rfl⟩ | rintro e w' ⟨rfl, ⟨nd, rfl⟩⟩
  refine ⟨_, rfl, ?_⟩
  by_cases c10 : t434 < 0
  ·rw [if_pos c10] at H
   have c10b0 : decide (t434 < 0) = true := decide_eq_true c10; clear c10; obtain rfl := Option.some.inj H
   go_wp2
   go_ret
   exact ⟨qe, qb1 HB.out GE432.out⟩
  ·rw [if_neg c10] at H
   have c10b0 : decide (t434 < 0) = false := decide_eq_false c10; clear c10; replace H := Option.bind_eq_some_iff.mp H; obtain ⟨t435, A110, H⟩ := H; have A11 := vA A110; clear A110; obtain ⟨hcz12_0, hcz12_1, hcz12_2, hcz12_3⟩ := v4c BK432.out; obtain ⟨hfz12_0, hfz12_1, hfz12_2, hfz12_3⟩ := v4f BK432.out
   go_wp2_with (first | ((with_reducible refine gate_callee (f := 87) rfl ?_); refine goesL_ (some 20) rfl rfl Try.func87 (by kernel_rfl) rfl #[.slice A0_3 l0_3.length c0_3, .int .i64 t434] rfl qm ?_; (with_reducible refine (laws_heldBlockS.calls k _ _ l0_3 t434 t435 _ (vc HR0_3 HB) HC0_3.out A11.out).mono ?_)))
   first | rintro e w13 rfl hb | rintro e w13 ⟨rfl, hb⟩
   refine ⟨_, rfl, ?_⟩; replace BK432 := vw BK432 hb; replace HB := vbs HB hb
   (try clear hb)
   (try clear hb2)
   (try clear hk)
   (try clear hi)
   by_cases c14 : t435 < 0
   ·rw [if_pos c14] at H
    have c14b0 : decide (t435 < 0) = true := decide_eq_true c14; clear c14; obtain rfl := Option.some.inj H
    go_wp2
    go_ret
    exact ⟨qe, qb1 HB.out GE432.out⟩
   ·rw [if_neg c14] at H
    have c14b0 : decide (t435 < 0) = false := decide_eq_false c14; clear c14; obtain rfl := Option.some.inj H
    go_wp2
    go_ret
    exact ⟨qe, qb1 HB.out GE432.out⟩

-- NOT PRINTED: function 4 (laws_FnExactDiskOf)

end Go.Proofs.Ytdnbpapolckklaa.PFnExactDiskOf
