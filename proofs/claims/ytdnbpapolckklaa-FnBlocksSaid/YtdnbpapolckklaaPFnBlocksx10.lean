-- Written by a program of this session (a changed copy of the kit's print: wip/print2). Lean checks it.
import Derived.Test.YtdnbpapolckklaaPFnBlocksx0
import Derived.Test.YtdnbpapolckklaaPFnBlocksx9
namespace Go.Proofs.Ytdnbpapolckklaa.PFnBlocks
open Go.RowKit Go.Proofs.YtdnbpapolckklaaW.PrintWords Go.Proofs.YtdnbpapolckklaaW.PrintLast Go.Proofs.YtdnbpapolckklaaW.PrintMore
attribute [local go_sem] max2_int min2_int max_two min_two max_three min_three max_four min_four   -- for this text's walks alone
attribute [local go_sem] Go.Proofs.Ytdnbpapolckklaa.Pad.isSome_setCell
set_option linter.unusedVariables false
set_option linter.unusedSimpArgs false

/-! ### spec_l01Byte: function 162 -/
def spec_l01Byte.f (s0_0 : List Int) (s0_1 : Int) (s0_2 : Int) : Option (Int × Int × Int) := if s0_1 < (s0_0.length : Int) then (if 0 ≤ s0_1 then (some (Go.bits .and .i64 (wrap64 ((Go.bits .and .i64 (Go.bits .xor .i64 ((wrap64 ((wrap64 (s0_2 * 6364136223846793005)) + 1442695040888963407)) / 8589934592) ((wrap64 ((wrap64 (s0_2 * 6364136223846793005)) + 1442695040888963407)) / 35184372088832)) 255) + (wrap64 (rd s0_0 s0_1)))) 255, wrap64 (s0_1 + 1), wrap64 ((wrap64 (s0_2 * 6364136223846793005)) + 1442695040888963407))) else (none)) else (some (Go.bits .and .i64 (Go.bits .xor .i64 ((wrap64 ((wrap64 (s0_2 * 6364136223846793005)) + 1442695040888963407)) / 8589934592) ((wrap64 ((wrap64 (s0_2 * 6364136223846793005)) + 1442695040888963407)) / 35184372088832)) 255, s0_1, wrap64 ((wrap64 (s0_2 * 6364136223846793005)) + 1442695040888963407)))
set_option maxHeartbeats 8000000 in
set_option maxRecDepth 100000 in
theorem spec_l01Byte.calls (g : Nat) (s0_0 : List Int) (s0_1 : Int) (s0_2 : Int) (r1 : Int) (r2 : Int) (r3 : Int) (w0 w : World) (hI : IsS157 w0 w g s0_0 s0_1 s0_2) (hB : Below w0.heap.size w0 w) (h : spec_l01Byte.f s0_0 s0_1 s0_2 = some (r1, r2, r3)) :
  Calls Try.prog 162 #[.pointer (some ⟨g, 0, none⟩)] w fun e w' => e = .returned (.int .i64 r1) ∧ IsS157 w0 w' g s0_0 r2 r3 ∧ Below w0.heap.size w0 w' ∧ KeepBut w w' g none := by
 have HI0 := Aside0.mk hI
 have HK := Aside0.mk (KeepBut.refl w g none)
 have HL := Aside0.mk hB.size
 clear hI
 have HW0 := Aside0.mk hB.size
 have HB := Aside0.mk hB
 clear hB
 have H : (if s0_1 < (s0_0.length : Int) then (if 0 ≤ s0_1 then (some (Go.bits .and .i64 (wrap64 ((Go.bits .and .i64 (Go.bits .xor .i64 ((wrap64 ((wrap64 (s0_2 * 6364136223846793005)) + 1442695040888963407)) / 8589934592) ((wrap64 ((wrap64 (s0_2 * 6364136223846793005)) + 1442695040888963407)) / 35184372088832)) 255) + (wrap64 (rd s0_0 s0_1)))) 255, wrap64 (s0_1 + 1), wrap64 ((wrap64 (s0_2 * 6364136223846793005)) + 1442695040888963407))) else (none)) else (some (Go.bits .and .i64 (Go.bits .xor .i64 ((wrap64 ((wrap64 (s0_2 * 6364136223846793005)) + 1442695040888963407)) / 8589934592) ((wrap64 ((wrap64 (s0_2 * 6364136223846793005)) + 1442695040888963407)) / 35184372088832)) 255, s0_1, wrap64 ((wrap64 (s0_2 * 6364136223846793005)) + 1442695040888963407)))) = some (r1, r2, r3) := h
 clear h
 by_cases c2 : s0_1 < (s0_0.length : Int)
 ·rw [if_pos c2] at H
  have c2b0 : decide (s0_1 < (s0_0.length : Int)) = true := decide_eq_true c2
  clear c2
  by_cases c3 : 0 ≤ s0_1
  ·rw [if_pos c3] at H
   have c3b0 : decide (0 ≤ s0_1) = true := decide_eq_true c3
   clear c3
   simp only [Option.some.injEq, Prod.mk.injEq] at H
   obtain ⟨rfl, rfl, rfl⟩ := H
   obtain ⟨ASz4_0, cSz4_0, HGz4, hgz4, HSz4_0⟩ := HI0.out
   have hcz4_0 := cellS157_0 HGz4
   have hcz4_1 := cellS157_1 HGz4
   have hcz4_2 := cellS157_2 HGz4
   have hfz4_1 := blk_frozen HGz4 1
   have hfz4_2 := blk_frozen HGz4 2
   clear HGz4 hgz4
   have p210 : 0 ≤ (s0_1 : Int) := qo
   have q210 : s0_1 < (s0_0.length : Int) := qo
   obtain ⟨ad210, e210, hx210_0⟩ := Kd.at_int HSz4_0 s0_1 p210 q210
   cases e210
   have hn210_0 : ad210.block ≠ g := Nat.ne_of_lt (Nat.lt_of_lt_of_le (by have := World.block_lt_of_cell? _ _ hx210_0; first | rwa [add_block] at this | exact this) (IsS157.ge HI0.out))
   replace hx210_0 := pw_cell_below HB.out hx210_0
   replace hx210_0 := (cell_far (p := ⟨g, 2, none⟩) (by first | (rw [add_block]; exact hn210_0) | (show (Addr.add _ _).block ≠ _; rw [add_block]; exact hn210_0) | exact hn210_0) (.int .i64 (wrap64 ((wrap64 (s0_2 * 6364136223846793005)) + 1442695040888963407)))).trans hx210_0
   (try have hy210_0 := fun (n_ : Nat) => (show (((w.drewN n_).setCell ⟨g, 2, none⟩ (.int .i64 (wrap64 ((wrap64 (s0_2 * 6364136223846793005)) + 1442695040888963407))))).cell? _ = some _ from hx210_0))
   clear hn210_0
   replace p210 := eq_true p210
   replace q210 := eq_true q210
   go_enter Try.func162, Try.ntmps162
   go_wp2
   repeat (go_quiet (fail); try go_wp2)
   go_ret
   exact ⟨qe, by repeat (first | (with_reducible first | exact HI0.out | apply IsS157.alloc | apply IsS157.drewN | apply IsS157.drew | apply IsS157.set_1 | apply IsS157.set_2) | exact HI0.out), qb1 HB.out (IsS157.ge HI0.out), qh HK.out⟩
  ·rw [if_neg c3] at H
   exact absurd H (by simp)
 ·rw [if_neg c2] at H
  have c2b0 : decide (s0_1 < (s0_0.length : Int)) = false := decide_eq_false c2
  clear c2
  simp only [Option.some.injEq, Prod.mk.injEq] at H
  obtain ⟨rfl, rfl, rfl⟩ := H
  obtain ⟨ASz5_0, cSz5_0, HGz5, hgz5, HSz5_0⟩ := HI0.out
  have hcz5_0 := cellS157_0 HGz5
  have hcz5_1 := cellS157_1 HGz5
  have hcz5_2 := cellS157_2 HGz5
  have hfz5_1 := blk_frozen HGz5 1
  have hfz5_2 := blk_frozen HGz5 2
  clear HGz5 hgz5
  go_enter Try.func162, Try.ntmps162
  go_wp2
  repeat (go_quiet (fail); try go_wp2)
  go_ret
  exact ⟨qe, by repeat (first | (with_reducible first | exact HI0.out | apply IsS157.alloc | apply IsS157.drewN | apply IsS157.drew | apply IsS157.set_1 | apply IsS157.set_2) | exact HI0.out), qb1 HB.out (IsS157.ge HI0.out), qh HK.out⟩

/-! ### spec_l01Below: function 145 -/
def spec_l01Below.f (s0_0 : List Int) (s0_1 : Int) (s0_2 : Int) (a1 : Int) : Option (Int × Int × Int) := if a1 ≤ 0 then (some (0, s0_1, s0_2)) else (if a1 ≤ 256 then ((spec_l01Byte.f s0_0 s0_1 s0_2).bind fun bt211 => (if a1 = 0 then (none) else (some (Int.tmod bt211.1 a1, bt211.2.1, bt211.2.2)))) else ((spec_l01Byte.f s0_0 s0_1 s0_2).bind fun bt214 => ((spec_l01Byte.f s0_0 bt214.2.1 bt214.2.2).bind fun bt217 => ((spec_l01Byte.f s0_0 bt217.2.1 bt217.2.2).bind fun bt220 => ((spec_l01Byte.f s0_0 bt220.2.1 bt220.2.2).bind fun bt223 => (if a1 = 0 then (none) else (some (Int.tmod (wrap64 ((wrap64 ((wrap64 ((wrap64 (bt214.1 * 16777216)) + (wrap64 (bt217.1 * 65536)))) + (wrap64 (bt220.1 * 256)))) + bt223.1)) a1, bt223.2.1, bt223.2.2))))))))
set_option maxHeartbeats 8000000 in
set_option maxRecDepth 100000 in
theorem spec_l01Below.calls (g : Nat) (s0_0 : List Int) (s0_1 : Int) (s0_2 : Int) (a1 : Int) (r1 : Int) (r2 : Int) (r3 : Int) (w0 w : World) (hI : IsS157 w0 w g s0_0 s0_1 s0_2) (hB : Below w0.heap.size w0 w) (h : spec_l01Below.f s0_0 s0_1 s0_2 a1 = some (r1, r2, r3)) :
  Calls Try.prog 145 #[.pointer (some ⟨g, 0, none⟩), .int .i64 a1] w fun e w' => e = .returned (.int .i64 r1) ∧ IsS157 w0 w' g s0_0 r2 r3 ∧ Below w0.heap.size w0 w' ∧ KeepBut w w' g none := by
 have HI0 := Aside0.mk hI
 have HK := Aside0.mk (KeepBut.refl w g none)
 have HL := Aside0.mk hB.size
 clear hI
 have HW0 := Aside0.mk hB.size
 have HB := Aside0.mk hB
 clear hB
 have H : (if a1 ≤ 0 then (some (0, s0_1, s0_2)) else (if a1 ≤ 256 then ((spec_l01Byte.f s0_0 s0_1 s0_2).bind fun bt211 => (if a1 = 0 then (none) else (some (Int.tmod bt211.1 a1, bt211.2.1, bt211.2.2)))) else ((spec_l01Byte.f s0_0 s0_1 s0_2).bind fun bt214 => ((spec_l01Byte.f s0_0 bt214.2.1 bt214.2.2).bind fun bt217 => ((spec_l01Byte.f s0_0 bt217.2.1 bt217.2.2).bind fun bt220 => ((spec_l01Byte.f s0_0 bt220.2.1 bt220.2.2).bind fun bt223 => (if a1 = 0 then (none) else (some (Int.tmod (wrap64 ((wrap64 ((wrap64 ((wrap64 (bt214.1 * 16777216)) + (wrap64 (bt217.1 * 65536)))) + (wrap64 (bt220.1 * 256)))) + bt223.1)) a1, bt223.2.1, bt223.2.2))))))))) = some (r1, r2, r3) := h
 clear h
 by_cases c3 : a1 ≤ 0
 ·rw [if_pos c3] at H
  have c3b0 : decide (a1 ≤ 0) = true := decide_eq_true c3
  clear c3
  simp only [Option.some.injEq, Prod.mk.injEq] at H
  obtain ⟨rfl, rfl, rfl⟩ := H
  go_enter Try.func145, Try.ntmps145
  go_wp2
  go_ret
  exact ⟨qe, by repeat (first | (with_reducible first | exact HI0.out | apply IsS157.alloc | apply IsS157.drewN | apply IsS157.drew | apply IsS157.set_1 | apply IsS157.set_2) | exact HI0.out), qb1 HB.out (IsS157.ge HI0.out), qh HK.out⟩
 ·rw [if_neg c3] at H
  have c3b0 : decide (a1 ≤ 0) = false := decide_eq_false c3
  clear c3
  by_cases c4 : a1 ≤ 256
  ·rw [if_pos c4] at H
   have c4b0 : decide (a1 ≤ 256) = true := decide_eq_true c4
   clear c4
   replace H := Option.bind_eq_some_iff.mp H
   obtain ⟨⟨t211, t212, t213⟩, A50, H⟩ := H
   replace H : (if a1 = 0 then (none) else (some (Int.tmod t211 a1, t212, t213))) = some (r1, r2, r3) := H
   have A5 := Aside0.mk A50
   clear A50
   by_cases c6 : a1 = 0
   ·rw [if_pos c6] at H
    exact absurd H (by simp)
   ·rw [if_neg c6] at H
    have c6b0 : (a1 == 0) = false := beq_eq_false_iff_ne.mpr c6
    have c6b1 : (a1 != 0) = true := bne_iff_ne.mpr c6
    simp only [Option.some.injEq, Prod.mk.injEq] at H
    obtain ⟨rfl, rfl, rfl⟩ := H
    go_enter Try.func145, Try.ntmps145
    go_wp2_with (first | ((with_reducible refine gate_callee (f := 162) rfl ?_); refine goesL_ (some 14) rfl rfl Try.func162 (by kernel_rfl) rfl #[.pointer (some ⟨g, 0, none⟩)] rfl qm ?_; (with_reducible refine (spec_l01Byte.calls g s0_0 s0_1 s0_2 t211 t212 t213 w0 _ ?side1 ?side2 A5.out).mono ?_); (case side1 => repeat (first | (with_reducible first | exact HI0.out | apply IsS157.alloc | apply IsS157.drewN | apply IsS157.drew | apply IsS157.set_1 | apply IsS157.set_2) | exact HI0.out)); (case side2 => repeat (first | (with_reducible first | exact HB.out | apply below_alloc | apply pw_below_drewN | apply below_drew1 | refine below_set ?_ (IsS157.ge HI0.out)) | exact HB.out)); rintro e w7 ⟨rfl, hi, hb, hk⟩; refine ⟨_, rfl, ?_⟩; have n0_ := Aside0.mk (KeepBut.trans (qh HK.out) hk (.inl rfl)); have n1_ := Aside0.mk (hb); have n2_ := Aside0.mk (hi); clear HK; clear HB; clear HI0; have HK := n0_; have HB := n1_; have HI0 := n2_; clear n0_ n1_ n2_; (try clear hb); (try clear hb2); (try clear hk); (try clear hi)))
    go_ret
    exact ⟨qe, by repeat (first | (with_reducible first | exact HI0.out | apply IsS157.alloc | apply IsS157.drewN | apply IsS157.drew | apply IsS157.set_1 | apply IsS157.set_2) | exact HI0.out), qb1 HB.out (IsS157.ge HI0.out), qh HK.out⟩
  ·rw [if_neg c4] at H
   have c4b0 : decide (a1 ≤ 256) = false := decide_eq_false c4
   clear c4
   replace H := Option.bind_eq_some_iff.mp H
   obtain ⟨⟨t214, t215, t216⟩, A80, H⟩ := H
   replace H : ((spec_l01Byte.f s0_0 t215 t216).bind fun bt217 => ((spec_l01Byte.f s0_0 bt217.2.1 bt217.2.2).bind fun bt220 => ((spec_l01Byte.f s0_0 bt220.2.1 bt220.2.2).bind fun bt223 => (if a1 = 0 then (none) else (some (Int.tmod (wrap64 ((wrap64 ((wrap64 ((wrap64 (t214 * 16777216)) + (wrap64 (bt217.1 * 65536)))) + (wrap64 (bt220.1 * 256)))) + bt223.1)) a1, bt223.2.1, bt223.2.2)))))) = some (r1, r2, r3) := H
   have A8 := Aside0.mk A80
   clear A80
   replace H := Option.bind_eq_some_iff.mp H
   obtain ⟨⟨t217, t218, t219⟩, A90, H⟩ := H
   replace H : ((spec_l01Byte.f s0_0 t218 t219).bind fun bt220 => ((spec_l01Byte.f s0_0 bt220.2.1 bt220.2.2).bind fun bt223 => (if a1 = 0 then (none) else (some (Int.tmod (wrap64 ((wrap64 ((wrap64 ((wrap64 (t214 * 16777216)) + (wrap64 (t217 * 65536)))) + (wrap64 (bt220.1 * 256)))) + bt223.1)) a1, bt223.2.1, bt223.2.2))))) = some (r1, r2, r3) := H
   have A9 := Aside0.mk A90
   clear A90
   replace H := Option.bind_eq_some_iff.mp H
   obtain ⟨⟨t220, t221, t222⟩, A100, H⟩ := H
   replace H : ((spec_l01Byte.f s0_0 t221 t222).bind fun bt223 => (if a1 = 0 then (none) else (some (Int.tmod (wrap64 ((wrap64 ((wrap64 ((wrap64 (t214 * 16777216)) + (wrap64 (t217 * 65536)))) + (wrap64 (t220 * 256)))) + bt223.1)) a1, bt223.2.1, bt223.2.2)))) = some (r1, r2, r3) := H
   have A10 := Aside0.mk A100
   clear A100
   replace H := Option.bind_eq_some_iff.mp H
   obtain ⟨⟨t223, t224, t225⟩, A110, H⟩ := H
   replace H : (if a1 = 0 then (none) else (some (Int.tmod (wrap64 ((wrap64 ((wrap64 ((wrap64 (t214 * 16777216)) + (wrap64 (t217 * 65536)))) + (wrap64 (t220 * 256)))) + t223)) a1, t224, t225))) = some (r1, r2, r3) := H
   have A11 := Aside0.mk A110
   clear A110
   by_cases c12 : a1 = 0
   ·rw [if_pos c12] at H
    exact absurd H (by simp)
   ·rw [if_neg c12] at H
    have c12b0 : (a1 == 0) = false := beq_eq_false_iff_ne.mpr c12
    have c12b1 : (a1 != 0) = true := bne_iff_ne.mpr c12
    simp only [Option.some.injEq, Prod.mk.injEq] at H
    obtain ⟨rfl, rfl, rfl⟩ := H
    go_enter Try.func145, Try.ntmps145
    go_wp2_with (first | ((with_reducible refine gate_callee (f := 162) rfl ?_); refine goesL_ (some 18) rfl rfl Try.func162 (by kernel_rfl) rfl #[.pointer (some ⟨g, 0, none⟩)] rfl qm ?_; (with_reducible refine (spec_l01Byte.calls g s0_0 s0_1 s0_2 t214 t215 t216 w0 _ ?side1 ?side2 A8.out).mono ?_); (case side1 => repeat (first | (with_reducible first | exact HI0.out | apply IsS157.alloc | apply IsS157.drewN | apply IsS157.drew | apply IsS157.set_1 | apply IsS157.set_2) | exact HI0.out)); (case side2 => repeat (first | (with_reducible first | exact HB.out | apply below_alloc | apply pw_below_drewN | apply below_drew1 | refine below_set ?_ (IsS157.ge HI0.out)) | exact HB.out)); rintro e w13 ⟨rfl, hi, hb, hk⟩; refine ⟨_, rfl, ?_⟩; have n0_ := Aside0.mk (KeepBut.trans (qh HK.out) hk (.inl rfl)); have n1_ := Aside0.mk (hb); have n2_ := Aside0.mk (hi); clear HK; clear HB; clear HI0; have HK := n0_; have HB := n1_; have HI0 := n2_; clear n0_ n1_ n2_; (try clear hb); (try clear hb2); (try clear hk); (try clear hi)) | ((with_reducible refine gate_callee (f := 162) rfl ?_); refine goesL_ (some 20) rfl rfl Try.func162 (by kernel_rfl) rfl #[.pointer (some ⟨g, 0, none⟩)] rfl qm ?_; (with_reducible refine (spec_l01Byte.calls g s0_0 t215 t216 t217 t218 t219 w0 _ ?side1 ?side2 A9.out).mono ?_); (case side1 => repeat (first | (with_reducible first | exact HI0.out | apply IsS157.alloc | apply IsS157.drewN | apply IsS157.drew | apply IsS157.set_1 | apply IsS157.set_2) | exact HI0.out)); (case side2 => repeat (first | (with_reducible first | exact HB.out | apply below_alloc | apply pw_below_drewN | apply below_drew1 | refine below_set ?_ (IsS157.ge HI0.out)) | exact HB.out)); rintro e w14 ⟨rfl, hi, hb, hk⟩; refine ⟨_, rfl, ?_⟩; have n0_ := Aside0.mk (KeepBut.trans (qh HK.out) hk (.inl rfl)); have n1_ := Aside0.mk (hb); have n2_ := Aside0.mk (hi); clear HK; clear HB; clear HI0; have HK := n0_; have HB := n1_; have HI0 := n2_; clear n0_ n1_ n2_; (try clear hb); (try clear hb2); (try clear hk); (try clear hi)) | ((with_reducible refine gate_callee (f := 162) rfl ?_); refine goesL_ (some 22) rfl rfl Try.func162 (by kernel_rfl) rfl #[.pointer (some ⟨g, 0, none⟩)] rfl qm ?_; (with_reducible refine (spec_l01Byte.calls g s0_0 t218 t219 t220 t221 t222 w0 _ ?side1 ?side2 A10.out).mono ?_); (case side1 => repeat (first | (with_reducible first | exact HI0.out | apply IsS157.alloc | apply IsS157.drewN | apply IsS157.drew | apply IsS157.set_1 | apply IsS157.set_2) | exact HI0.out)); (case side2 => repeat (first | (with_reducible first | exact HB.out | apply below_alloc | apply pw_below_drewN | apply below_drew1 | refine below_set ?_ (IsS157.ge HI0.out)) | exact HB.out)); rintro e w15 ⟨rfl, hi, hb, hk⟩; refine ⟨_, rfl, ?_⟩; have n0_ := Aside0.mk (KeepBut.trans (qh HK.out) hk (.inl rfl)); have n1_ := Aside0.mk (hb); have n2_ := Aside0.mk (hi); clear HK; clear HB; clear HI0; have HK := n0_; have HB := n1_; have HI0 := n2_; clear n0_ n1_ n2_; (try clear hb); (try clear hb2); (try clear hk); (try clear hi)) | ((with_reducible refine gate_callee (f := 162) rfl ?_); refine goesL_ (some 24) rfl rfl Try.func162 (by kernel_rfl) rfl #[.pointer (some ⟨g, 0, none⟩)] rfl qm ?_; (with_reducible refine (spec_l01Byte.calls g s0_0 t221 t222 t223 t224 t225 w0 _ ?side1 ?side2 A11.out).mono ?_); (case side1 => repeat (first | (with_reducible first | exact HI0.out | apply IsS157.alloc | apply IsS157.drewN | apply IsS157.drew | apply IsS157.set_1 | apply IsS157.set_2) | exact HI0.out)); (case side2 => repeat (first | (with_reducible first | exact HB.out | apply below_alloc | apply pw_below_drewN | apply below_drew1 | refine below_set ?_ (IsS157.ge HI0.out)) | exact HB.out)); rintro e w16 ⟨rfl, hi, hb, hk⟩; refine ⟨_, rfl, ?_⟩; have n0_ := Aside0.mk (KeepBut.trans (qh HK.out) hk (.inl rfl)); have n1_ := Aside0.mk (hb); have n2_ := Aside0.mk (hi); clear HK; clear HB; clear HI0; have HK := n0_; have HB := n1_; have HI0 := n2_; clear n0_ n1_ n2_; (try clear hb); (try clear hb2); (try clear hk); (try clear hi)))
    go_ret
    exact ⟨qe, by repeat (first | (with_reducible first | exact HI0.out | apply IsS157.alloc | apply IsS157.drewN | apply IsS157.drew | apply IsS157.set_1 | apply IsS157.set_2) | exact HI0.out), qb1 HB.out (IsS157.ge HI0.out), qh HK.out⟩

/-! ### spec_l01Once: function 99 -/
def spec_l01Once.f (s0_0 : List Int) (s0_1 : Int) (s0_2 : Int) (a1 : Int) : Option (Bool × Int × Int) := (spec_l01Below.f s0_0 s0_1 s0_2 a1).bind fun bt226 => (some ((bt226.1 == 0), bt226.2.1, bt226.2.2))
set_option maxHeartbeats 8000000 in
set_option maxRecDepth 100000 in
theorem spec_l01Once.calls (g : Nat) (s0_0 : List Int) (s0_1 : Int) (s0_2 : Int) (a1 : Int) (r1 : Bool) (r2 : Int) (r3 : Int) (w0 w : World) (hI : IsS157 w0 w g s0_0 s0_1 s0_2) (hB : Below w0.heap.size w0 w) (h : spec_l01Once.f s0_0 s0_1 s0_2 a1 = some (r1, r2, r3)) :
  Calls Try.prog 99 #[.pointer (some ⟨g, 0, none⟩), .int .i64 a1] w fun e w' => e = .returned (.bool r1) ∧ IsS157 w0 w' g s0_0 r2 r3 ∧ Below w0.heap.size w0 w' ∧ KeepBut w w' g none := by
 have HI0 := Aside0.mk hI
 have HK := Aside0.mk (KeepBut.refl w g none)
 have HL := Aside0.mk hB.size
 clear hI
 have HW0 := Aside0.mk hB.size
 have HB := Aside0.mk hB
 clear hB
 have H : ((spec_l01Below.f s0_0 s0_1 s0_2 a1).bind fun bt226 => (some ((bt226.1 == 0), bt226.2.1, bt226.2.2))) = some (r1, r2, r3) := h
 clear h
 replace H := Option.bind_eq_some_iff.mp H
 obtain ⟨⟨t226, t227, t228⟩, A30, H⟩ := H
 replace H : (some ((t226 == 0), t227, t228)) = some (r1, r2, r3) := H
 have A3 := Aside0.mk A30
 clear A30
 simp only [Option.some.injEq, Prod.mk.injEq] at H
 obtain ⟨rfl, rfl, rfl⟩ := H
 go_enter Try.func99, Try.ntmps99
 go_wp2_with (first | ((with_reducible refine gate_callee (f := 145) rfl ?_); refine goesL_ (some 7) rfl rfl Try.func145 (by kernel_rfl) rfl #[.pointer (some ⟨g, 0, none⟩), .int .i64 a1] rfl qm ?_; (with_reducible refine (spec_l01Below.calls g s0_0 s0_1 s0_2 a1 t226 t227 t228 w0 _ ?side1 ?side2 A3.out).mono ?_); (case side1 => repeat (first | (with_reducible first | exact HI0.out | apply IsS157.alloc | apply IsS157.drewN | apply IsS157.drew | apply IsS157.set_1 | apply IsS157.set_2) | exact HI0.out)); (case side2 => repeat (first | (with_reducible first | exact HB.out | apply below_alloc | apply pw_below_drewN | apply below_drew1 | refine below_set ?_ (IsS157.ge HI0.out)) | exact HB.out)); rintro e w4 ⟨rfl, hi, hb, hk⟩; refine ⟨_, rfl, ?_⟩; have n0_ := Aside0.mk (KeepBut.trans (qh HK.out) hk (.inl rfl)); have n1_ := Aside0.mk (hb); have n2_ := Aside0.mk (hi); clear HK; clear HB; clear HI0; have HK := n0_; have HB := n1_; have HI0 := n2_; clear n0_ n1_ n2_; (try clear hb); (try clear hb2); (try clear hk); (try clear hi)))
 go_ret
 exact ⟨qe, by repeat (first | (with_reducible first | exact HI0.out | apply IsS157.alloc | apply IsS157.drewN | apply IsS157.drew | apply IsS157.set_1 | apply IsS157.set_2) | exact HI0.out), qb1 HB.out (IsS157.ge HI0.out), qh HK.out⟩

/-! ### spec_l01Pick: function 101 -/
def spec_l01Pick.f (s0_0 : List Int) (s0_1 : Int) (s0_2 : Int) (l1 : List ByteArray) : Option (ByteArray × Int × Int) := (spec_l01Below.f s0_0 s0_1 s0_2 (l1.length : Int)).bind fun bt229 => (if 0 ≤ bt229.1 then (if bt229.1 < (l1.length : Int) then (some (rdOf ByteArray.empty l1 bt229.1, bt229.2.1, bt229.2.2)) else (none)) else (none))
set_option maxHeartbeats 8000000 in
set_option maxRecDepth 100000 in
theorem spec_l01Pick.calls (g : Nat) (s0_0 : List Int) (s0_1 : Int) (s0_2 : Int) (A1 : Option Addr) (c1 : Nat) (l1 : List ByteArray) (r1 : ByteArray) (r2 : Int) (r3 : Int) (w0 w : World) (hI : IsS157 w0 w g s0_0 s0_1 s0_2) (hB : Below w0.heap.size w0 w) (hr1 : Kd.C Kd.string w A1 l1.length l1) (hc1 : l1.length ≤ c1) (hf1 : ∀ ad, A1 = some ad → 0 < l1.length → ad.block ≠ g) (h : spec_l01Pick.f s0_0 s0_1 s0_2 l1 = some (r1, r2, r3)) :
  Calls Try.prog 101 #[.pointer (some ⟨g, 0, none⟩), .slice A1 l1.length c1] w fun e w' => e = .returned (.string r1) ∧ IsS157 w0 w' g s0_0 r2 r3 ∧ Below w0.heap.size w0 w' ∧ KeepBut w w' g none := by
 have HR1 := Aside0.mk hr1
 have HC1 := Aside0.mk hc1
 clear hr1 hc1
 have HI0 := Aside0.mk hI
 have HK := Aside0.mk (KeepBut.refl w g none)
 have HL := Aside0.mk hB.size
 clear hI
 have HW0 := Aside0.mk hB.size
 have HB := Aside0.mk hB
 clear hB
 have H : ((spec_l01Below.f s0_0 s0_1 s0_2 (l1.length : Int)).bind fun bt229 => (if 0 ≤ bt229.1 then (if bt229.1 < (l1.length : Int) then (some (rdOf ByteArray.empty l1 bt229.1, bt229.2.1, bt229.2.2)) else (none)) else (none))) = some (r1, r2, r3) := h
 clear h
 replace H := Option.bind_eq_some_iff.mp H
 obtain ⟨⟨t229, t230, t231⟩, A30, H⟩ := H
 replace H : (if 0 ≤ t229 then (if t229 < (l1.length : Int) then (some (rdOf ByteArray.empty l1 t229, t230, t231)) else (none)) else (none)) = some (r1, r2, r3) := H
 have A3 := Aside0.mk A30
 clear A30
 by_cases c4 : 0 ≤ t229
 ·rw [if_pos c4] at H
  have c4b0 : decide (0 ≤ t229) = true := decide_eq_true c4
  clear c4
  by_cases c5 : t229 < (l1.length : Int)
  ·rw [if_pos c5] at H
   have c5b0 : decide (t229 < (l1.length : Int)) = true := decide_eq_true c5
   clear c5
   simp only [Option.some.injEq, Prod.mk.injEq] at H
   obtain ⟨rfl, rfl, rfl⟩ := H
   go_enter Try.func101, Try.ntmps101
   go_wp2_with (first | ((with_reducible refine gate_callee (f := 145) rfl ?_); refine goesL_ (some 9) rfl rfl Try.func145 (by kernel_rfl) rfl #[.pointer (some ⟨g, 0, none⟩), .int .i64 (l1.length : Int)] rfl qm ?_; (with_reducible refine (spec_l01Below.calls g s0_0 s0_1 s0_2 (l1.length : Int) t229 t230 t231 w0 _ ?side1 ?side2 A3.out).mono ?_); (case side1 => repeat (first | (with_reducible first | exact HI0.out | apply IsS157.alloc | apply IsS157.drewN | apply IsS157.drew | apply IsS157.set_1 | apply IsS157.set_2) | exact HI0.out)); (case side2 => repeat (first | (with_reducible first | exact HB.out | apply below_alloc | apply pw_below_drewN | apply below_drew1 | refine below_set ?_ (IsS157.ge HI0.out)) | exact HB.out)); rintro e w6 ⟨rfl, hi, hb, hk⟩; refine ⟨_, rfl, ?_⟩; have n0_ := Aside0.mk (KeepBut.trans (qh HK.out) hk (.inl rfl)); have n1_ := Aside0.mk (hb); have n2_ := Aside0.mk (hi); clear HK; clear HB; clear HI0; have HK := n0_; have HB := n1_; have HI0 := n2_; clear n0_ n1_ n2_; (try clear hb); (try clear hb2); (try clear hk); (try clear hi); have p232 : 0 ≤ (t229 : Int) := qo; have q232 : t229 < (l1.length : Int) := qo; obtain ⟨ad232, e232, hx232_0⟩ := Kd.at_string HR1.out t229 p232 q232; cases e232; replace hx232_0 := keep_cell HK.out hx232_0 (by first | (rw [add_block]; exact hf1 _ rfl (by omega)) | exact hf1 _ rfl (by omega) | exact hf1 ad232 rfl (by omega)); replace p232 := eq_true p232; replace q232 := eq_true q232))
   go_ret
   exact ⟨qe, by repeat (first | (with_reducible first | exact HI0.out | apply IsS157.alloc | apply IsS157.drewN | apply IsS157.drew | apply IsS157.set_1 | apply IsS157.set_2) | exact HI0.out), qb1 HB.out (IsS157.ge HI0.out), qh HK.out⟩
  ·rw [if_neg c5] at H
   exact absurd H (by simp)
 ·rw [if_neg c4] at H
  exact absurd H (by simp)

/-! ### spec_l04Name: function 100 -/
def spec_l04Name.f (s0_0 : List Int) (s0_1 : Int) (s0_2 : Int) : Option (ByteArray × Int × Int) := (spec_l01Pick.f s0_0 s0_1 s0_2 (([(⟨#[97]⟩ : ByteArray), (⟨#[98]⟩ : ByteArray), (⟨#[99]⟩ : ByteArray), (⟨#[100, 100]⟩ : ByteArray), (⟨#[101, 49]⟩ : ByteArray)] : List ByteArray))).bind fun bt236 => (some (bt236.1, bt236.2.1, bt236.2.2))
set_option maxHeartbeats 8000000 in
set_option maxRecDepth 100000 in
theorem spec_l04Name.calls (g : Nat) (s0_0 : List Int) (s0_1 : Int) (s0_2 : Int) (r1 : ByteArray) (r2 : Int) (r3 : Int) (w0 w : World) (hI : IsS157 w0 w g s0_0 s0_1 s0_2) (hB : Below w0.heap.size w0 w) (h : spec_l04Name.f s0_0 s0_1 s0_2 = some (r1, r2, r3)) :
  Calls Try.prog 100 #[.pointer (some ⟨g, 0, none⟩)] w fun e w' => e = .returned (.string r1) ∧ IsS157 w0 w' g s0_0 r2 r3 ∧ Below w0.heap.size w0 w' ∧ KeepBut w w' g none := by
 have HI0 := Aside0.mk hI
 have HK := Aside0.mk (KeepBut.refl w g none)
 have HL := Aside0.mk hB.size
 clear hI
 have HW0 := Aside0.mk hB.size
 have HB := Aside0.mk hB
 clear hB
 have H : ((spec_l01Pick.f s0_0 s0_1 s0_2 (([(⟨#[97]⟩ : ByteArray), (⟨#[98]⟩ : ByteArray), (⟨#[99]⟩ : ByteArray), (⟨#[100, 100]⟩ : ByteArray), (⟨#[101, 49]⟩ : ByteArray)] : List ByteArray))).bind fun bt236 => (some (bt236.1, bt236.2.1, bt236.2.2))) = some (r1, r2, r3) := h
 clear h
 obtain ⟨y233, hy233⟩ : ∃ y_ : List ByteArray, y_ = (([(⟨#[97]⟩ : ByteArray), (⟨#[98]⟩ : ByteArray), (⟨#[99]⟩ : ByteArray), (⟨#[100, 100]⟩ : ByteArray), (⟨#[101, 49]⟩ : ByteArray)] : List ByteArray)) := ⟨_, rfl⟩
 replace H : ((spec_l01Pick.f s0_0 s0_1 s0_2 y233).bind fun bt236 => (some (bt236.1, bt236.2.1, bt236.2.2))) = some (r1, r2, r3) := by first | (rw [hy233]; with_reducible exact H) | (have H2_ := (Option.bind_some _ _).symm.trans H; rw [hy233]; with_reducible exact H2_) | (have H2_ := (Option.bind_some _ _).symm.trans H; with_reducible exact H2_) | with_reducible exact H | (rw [hy233]; exact H) | exact H
 have Ny233 := Aside0.mk hy233
 clear hy233
 replace H := Option.bind_eq_some_iff.mp H
 obtain ⟨⟨t236, t237, t238⟩, A20, H⟩ := H
 replace H : (some (t236, t237, t238)) = some (r1, r2, r3) := H
 have A2 := Aside0.mk A20
 clear A20
 simp only [Option.some.injEq, Prod.mk.injEq] at H
 obtain ⟨rfl, rfl, rfl⟩ := H
 go_enter Try.func100, Try.ntmps100
 go_wp2_with (first | ((with_reducible refine gate_dst (N := 4) rfl ?_); refine Kd.R_lit Kd.string _ 9 ?hg (N := 4) ?hd (xs := ([(⟨#[97]⟩ : ByteArray), (⟨#[98]⟩ : ByteArray), (⟨#[99]⟩ : ByteArray), (⟨#[100, 100]⟩ : ByteArray), (⟨#[101, 49]⟩ : ByteArray)] : List ByteArray)) (inner := [.string (⟨#[97]⟩ : ByteArray), .string (⟨#[98]⟩ : ByteArray), .string (⟨#[99]⟩ : ByteArray), .string (⟨#[100, 100]⟩ : ByteArray), .string (⟨#[101, 49]⟩ : ByteArray)]) (ok := fun _ => True) (okp := fun _ => True) ?hr ?hp (fun _ hk => hk) trivial (Below.refl _ _) (Nat.le_refl _) (by simp) ?_; (case hd => rfl); (case hg => rfl); (case hr => first | (go_simp; done) | (go_simp; rfl)); (case hp => exact (Reps.one (show Kd.M Kd.string _ _ _ (⟨#[97]⟩ : ByteArray) [.string (⟨#[97]⟩ : ByteArray)] from rfl) (Reps.one (show Kd.M Kd.string _ _ _ (⟨#[98]⟩ : ByteArray) [.string (⟨#[98]⟩ : ByteArray)] from rfl) (Reps.one (show Kd.M Kd.string _ _ _ (⟨#[99]⟩ : ByteArray) [.string (⟨#[99]⟩ : ByteArray)] from rfl) (Reps.one (show Kd.M Kd.string _ _ _ (⟨#[100, 100]⟩ : ByteArray) [.string (⟨#[100, 100]⟩ : ByteArray)] from rfl) (Reps.one (show Kd.M Kd.string _ _ _ (⟨#[101, 49]⟩ : ByteArray) [.string (⟨#[101, 49]⟩ : ByteArray)] from rfl) (Reps.none _ _))))))); intro v234 w3 ho4 hb hg_ hnew_; clear hg_ hnew_; (first | rw [← Ny233.out] at ho4 | (simp only [Int.reduceToNat] at ho4; rw [← Ny233.out] at ho4)); have n0_ := Aside0.mk (Kd.R_lower ho4 (keep_size (w := w) (g := g) (row := none) (qh HK.out))); have n1_ := Aside0.mk (IsS157.below (by repeat (first | (with_reducible first | exact HI0.out | apply IsS157.alloc | apply IsS157.drewN | apply IsS157.drew | apply IsS157.set_1 | apply IsS157.set_2) | exact HI0.out)) hb); have n2_ := Aside0.mk (KeepBut.trans (qh HK.out) (KeepBut.of_below hb g none) (.inl rfl)); have n3_ := Aside0.mk (below_step (qb1 HB.out (IsS157.ge HI0.out)) hb); clear HI0; clear HK; clear HB; have HO235 := n0_; have HI0 := n1_; have HK := n2_; have HB := n3_; clear n0_ n1_ n2_ n3_; clear hb ho4; obtain ⟨Ao5, co5, eo5⟩ := Kd.R_slice HO235.out; subst eo5) | ((with_reducible refine gate_callee (f := 101) rfl ?_); refine goesL_ (some 5) rfl rfl Try.func101 (by kernel_rfl) rfl #[.pointer (some ⟨g, 0, none⟩), .slice Ao5 y233.length co5] rfl qm ?_; (with_reducible refine (spec_l01Pick.calls g s0_0 s0_1 s0_2 _ _ y233 t236 t237 t238 w0 _ ?side1 ?side2 ?side3 ?side4 ?side5 A2.out).mono ?_); (case side1 => repeat (first | (with_reducible first | exact HI0.out | apply IsS157.alloc | apply IsS157.drewN | apply IsS157.drew | apply IsS157.set_1 | apply IsS157.set_2) | exact HI0.out)); (case side2 => repeat (first | (with_reducible first | exact HB.out | apply below_alloc | apply pw_below_drewN | apply below_drew1 | refine below_set ?_ (IsS157.ge HI0.out)) | exact HB.out)); (case side3 => repeat (first | exact (Kd.R_reads' HO235.out).2.2 | (with_reducible refine Kd.C_alloc ?_ _) | (with_reducible refine Kd.C_drewN ?_ _) | (with_reducible refine Kd.C_drew ?_))); (case side4 => exact (Kd.R_reads' HO235.out).2.1); (case side5 => exact far_slice (IsS157.own_ne HI0.out HO235.out (by decide))); rintro e w6 ⟨rfl, hi, hb, hk⟩; refine ⟨_, rfl, ?_⟩; have n0_ := Aside0.mk (Kd.R_mono (Kd.R_keep (IsS157.apart (show IsS157 w0 _ g s0_0 s0_1 s0_2 from by repeat (first | (with_reducible first | exact HI0.out | apply IsS157.alloc | apply IsS157.drewN | apply IsS157.drew | apply IsS157.set_1 | apply IsS157.set_2) | exact HI0.out)) (qr HO235.out) (by decide)) hk (fun _ h => h.2)) (fun _ h => h.1)); have n1_ := Aside0.mk (KeepBut.trans (qh HK.out) hk (.inl rfl)); have n2_ := Aside0.mk (hb); have n3_ := Aside0.mk (hi); clear HO235; clear HK; clear HB; clear HI0; have HO235 := n0_; have HK := n1_; have HB := n2_; have HI0 := n3_; clear n0_ n1_ n2_ n3_; (try clear hb); (try clear hb2); (try clear hk); (try clear hi)))
 go_ret
 exact ⟨qe, by repeat (first | (with_reducible first | exact HI0.out | apply IsS157.alloc | apply IsS157.drewN | apply IsS157.drew | apply IsS157.set_1 | apply IsS157.set_2) | exact HI0.out), qb1 HB.out (IsS157.ge HI0.out), qh HK.out⟩

/-! ### spec_l01Text: function 144 -/
mutual
def spec_l01Text.j0 : Nat → Int → List Int → Int → Int → Option (ByteArray × Int × Int)
 | 0, _, _, _, _ => none
 | k + 1, x1, x1000, x1001, x1002 => spec_l01Text.l0 k x1 (([] : List Int)) 0 x1000 x1001 x1002
def spec_l01Text.l0 : Nat → Int → List Int → Int → List Int → Int → Int → Option (ByteArray × Int × Int)
 | 0, _, _, _, _, _, _ => none
 | k + 1, x1, x5, x6, x1000, x1001, x1002 => if x6 < x1 then ((spec_l01Byte.f x1000 x1001 x1002).bind fun bt242 => (if x5.length < 140737488355328 then (spec_l01Text.l0 k x1 (x5 ++ [(bt242.1) % 256]) (wrap64 (x6 + 1)) x1000 bt242.2.1 bt242.2.2) else (none))) else (some (strOfNums x5, x1001, x1002))
end
def spec_l01Text.f (k : Nat) (s0_0 : List Int) (s0_1 : Int) (s0_2 : Int) (a1 : Int) : Option (ByteArray × Int × Int) := if a1 > 5000 then (spec_l01Text.j0 k 5000 s0_0 s0_1 s0_2) else (spec_l01Text.j0 k a1 s0_0 s0_1 s0_2)
theorem spec_l01Text.mono_l : ∀ k, (∀ y0 y1 y2 y3, LeO (spec_l01Text.j0 k y0 y1 y2 y3) (spec_l01Text.j0 (k + 1) y0 y1 y2 y3)) ∧ (∀ y0 y1 y2 y3 y4 y5, LeO (spec_l01Text.l0 k y0 y1 y2 y3 y4 y5) (spec_l01Text.l0 (k + 1) y0 y1 y2 y3 y4 y5))
 | 0 => ⟨fun _ _ _ _ r h => by simp [spec_l01Text.j0] at h, fun _ _ _ _ _ _ r h => by simp [spec_l01Text.l0] at h⟩
 | k + 1 => by
  obtain ⟨ih0, ih1⟩ := spec_l01Text.mono_l k
  refine ⟨?_, ?_⟩
  ·intro y0 y1 y2 y3
   unfold spec_l01Text.j0
   repeat' first
   | (with_reducible exact ih0 _ _ _ _)
   | (with_reducible exact ih1 _ _ _ _ _ _)
   | with_reducible first | exact LeO.refl _ | exact LeO.none _ | refine LeO.ite ?_ ?_ | refine LeO.bind ?_ (fun _ => ?_)
   | exact ih0 _ _ _ _
   | exact ih1 _ _ _ _ _ _
   | exact LeO.none _
   | refine LeO.ite ?_ ?_
   | refine LeO.bind ?_ (fun _ => ?_)
  ·intro y0 y1 y2 y3 y4 y5
   unfold spec_l01Text.l0
   repeat' first
   | (with_reducible exact ih0 _ _ _ _)
   | (with_reducible exact ih1 _ _ _ _ _ _)
   | with_reducible first | exact LeO.refl _ | exact LeO.none _ | refine LeO.ite ?_ ?_ | refine LeO.bind ?_ (fun _ => ?_)
   | exact ih0 _ _ _ _
   | exact ih1 _ _ _ _ _ _
   | exact LeO.none _
   | refine LeO.ite ?_ ?_
   | refine LeO.bind ?_ (fun _ => ?_)
theorem spec_l01Text.mono : ∀ a0 a1 a2 a3 k, LeO (spec_l01Text.f k a0 a1 a2 a3) (spec_l01Text.f (k + 1) a0 a1 a2 a3) := by
 intro a0 a1 a2 a3 k
 obtain ⟨ih0, ih1⟩ := spec_l01Text.mono_l k
 unfold spec_l01Text.f
 repeat' first
   | (with_reducible exact ih0 _ _ _ _)
   | (with_reducible exact ih1 _ _ _ _ _ _)
   | with_reducible first | exact LeO.refl _ | exact LeO.none _ | refine LeO.ite ?_ ?_ | refine LeO.bind ?_ (fun _ => ?_)
   | exact ih0 _ _ _ _
   | exact ih1 _ _ _ _ _ _
   | exact LeO.none _
   | refine LeO.ite ?_ ?_
   | refine LeO.bind ?_ (fun _ => ?_)
set_option maxHeartbeats 8000000 in
set_option maxRecDepth 100000 in
theorem spec_l01Text.calls (k : Nat) (g : Nat) (s0_0 : List Int) (s0_1 : Int) (s0_2 : Int) (a1 : Int) (r1 : ByteArray) (r2 : Int) (r3 : Int) (w0 w : World) (hI : IsS157 w0 w g s0_0 s0_1 s0_2) (hB : Below w0.heap.size w0 w) (h : spec_l01Text.f k s0_0 s0_1 s0_2 a1 = some (r1, r2, r3)) :
  Calls Try.prog 144 #[.pointer (some ⟨g, 0, none⟩), .int .i64 a1] w fun e w' => e = .returned (.string r1) ∧ IsS157 w0 w' g s0_0 r2 r3 ∧ Below w0.heap.size w0 w' ∧ KeepBut w w' g none := by
 have HI0 := Aside0.mk hI
 have HK := Aside0.mk (KeepBut.refl w g none)
 have HL := Aside0.mk hB.size
 clear hI
 have HW0 := Aside0.mk hB.size
 have HB := Aside0.mk hB
 clear hB
 have H : (if a1 > 5000 then (spec_l01Text.j0 k 5000 s0_0 s0_1 s0_2) else (spec_l01Text.j0 k a1 s0_0 s0_1 s0_2)) = some (r1, r2, r3) := h
 clear h
 have HC3 := Aside0.mk H
 clear H
 go_enter Try.func144, Try.ntmps144
 go_upto_if 8 with (fail)
 go_cut [1] (fun v1 wc => ∃ (kq : Nat) (x1_2 : Int), v1 = .int .i64 x1_2 ∧ Aside0 (spec_l01Text.j0 kq x1_2 s0_0 s0_1 s0_2 = some (r1, r2, r3)) ∧ Aside0 (kq ≤ k) ∧ Aside0 (IsS157 w0 wc g s0_0 s0_1 s0_2) ∧ Aside0 (KeepBut w wc g none) ∧ Aside0 (Below w0.heap.size w0 wc))
 case first =>
  have H := HC3.out
  clear HC3
  by_cases c4 : a1 > 5000
  ·rw [if_pos c4] at H
   have c4b0 : decide (5000 < a1) = true := decide_eq_true c4
   clear c4
   (first | rw [c4b0] | (simp only [i64_w, i32_w]; rw [c4b0]) | skip)
   have H' := Aside0.mk H
   clear H
   go_wp2
   go_meet
   case rel => exact ⟨_, (5000), qz, H', ⟨by first | omega | exact Nat.le_refl _⟩, ⟨by repeat (first | (with_reducible first | exact HI0.out | apply IsS157.alloc | apply IsS157.drewN | apply IsS157.drew | apply IsS157.set_1 | apply IsS157.set_2) | exact HI0.out)⟩, ⟨qh HK.out⟩, ⟨qb1 HB.out (IsS157.ge HI0.out)⟩⟩
  ·rw [if_neg c4] at H
   have c4b0 : decide (5000 < a1) = false := decide_eq_false c4
   clear c4
   (first | rw [c4b0] | (simp only [i64_w, i32_w]; rw [c4b0]) | skip)
   have H' := Aside0.mk H
   clear H
   go_wp2
   go_meet
   case rel => exact ⟨_, (a1), qz, H', ⟨by first | omega | exact Nat.le_refl _⟩, ⟨by repeat (first | (with_reducible first | exact HI0.out | apply IsS157.alloc | apply IsS157.drewN | apply IsS157.drew | apply IsS157.set_1 | apply IsS157.set_2) | exact HI0.out)⟩, ⟨qh HK.out⟩, ⟨qb1 HB.out (IsS157.ge HI0.out)⟩⟩
 case rest =>
  clear HC3
  try clear c1
  try clear p2
  try clear c4
  try clear c4b0
  obtain ⟨kq, x1_2, rfl, HA, HJ2, HI0, HK, HB⟩ := hcut
  cases kq with
  | zero => exact absurd HA.out (by simp [spec_l01Text.j0])
  | succ kj2 =>
   have H := HA.out
   clear HA
   simp only [spec_l01Text.j0] at H
   obtain ⟨y239, hy239⟩ : ∃ y_ : List Int, y_ = (([] : List Int)) := ⟨_, rfl⟩
   replace H : (spec_l01Text.l0 kj2 x1_2 y239 0 s0_0 s0_1 s0_2) = some (r1, r2, r3) := by first | (rw [hy239]; with_reducible exact H) | (have H2_ := (Option.bind_some _ _).symm.trans H; rw [hy239]; with_reducible exact H2_) | (have H2_ := (Option.bind_some _ _).symm.trans H; with_reducible exact H2_) | with_reducible exact H | (rw [hy239]; exact H) | exact H
   have Ny239 := Aside0.mk hy239
   clear hy239
   have H' := Aside0.mk H
   clear H
   go_wp2_with (first | ((with_reducible refine gate_dst (N := 9) rfl ?_); refine Kd.R_lit (Kd.int .u8) _ 5 ?hg (N := 9) ?hd (xs := ([] : List Int)) (inner := []) (ok := fun _ => True) (okp := fun _ => True) ?hr ?hp (fun _ hk => hk) trivial (Below.refl _ _) (Nat.le_refl _) (by simp) ?_; (case hd => rfl); (case hg => rfl); (case hr => first | (go_simp; done) | (go_simp; rfl)); (case hp => exact (Reps.none _ _)); intro v240 w5 ho6 hb hg_ hnew_; clear hg_ hnew_; (first | rw [← Ny239.out] at ho6 | (simp only [Int.reduceToNat] at ho6; rw [← Ny239.out] at ho6)); have n0_ := Aside0.mk (Kd.R_lower ho6 (keep_size (w := w) (g := g) (row := none) (qh HK.out))); have n1_ := Aside0.mk (IsS157.below (by repeat (first | (with_reducible first | exact HI0.out | apply IsS157.alloc | apply IsS157.drewN | apply IsS157.drew | apply IsS157.set_1 | apply IsS157.set_2) | exact HI0.out)) hb); have n2_ := Aside0.mk (KeepBut.trans (qh HK.out) (KeepBut.of_below hb g none) (.inl rfl)); have n3_ := Aside0.mk (below_step (qb1 HB.out (IsS157.ge HI0.out)) hb); clear HI0; clear HK; clear HB; have HO241 := n0_; have HI0 := n1_; have HK := n2_; have HB := n3_; clear n0_ n1_ n2_ n3_; clear hb ho6))
   go_loopg [5, 6] kj2 (fun kq v5 v6 w' => ∃ (x5_2 : List Int) (x6_2 : Int) (x1001_2 : Int) (x1002_2 : Int), v6 = .int .i64 x6_2 ∧ Aside0 (spec_l01Text.l0 kq x1_2 x5_2 x6_2 s0_0 x1001_2 x1002_2 = some (r1, r2, r3)) ∧ Aside0 (kq ≤ kj2) ∧ Aside0 (Kd.R (Kd.int .u8) 5 w' w.heap.size (fun _ => True) v5 x5_2) ∧ Aside0 (IsS157 w0 w' g s0_0 x1001_2 x1002_2) ∧ Aside0 (KeepBut w w' g none) ∧ Aside0 (Below w0.heap.size w0 w'))
   case atStart => exact ⟨(y239), (0), (s0_1), (s0_2), qz, H', ⟨Nat.le_refl _⟩, ⟨qr HO241.out⟩, ⟨by repeat (first | (with_reducible first | exact HI0.out | apply IsS157.alloc | apply IsS157.drewN | apply IsS157.drew | apply IsS157.set_1 | apply IsS157.set_2) | exact HI0.out)⟩, ⟨qh HK.out⟩, ⟨qb1 HB.out (IsS157.ge HI0.out)⟩⟩
   case round =>
    clear H'
    try clear c1
    try clear p2
    try clear c4
    try clear c4b0
    try clear p2
    obtain ⟨x5_2, x6_2, x1001_2, x1002_2, rfl, HA, HK2, HO_5, HI0, HK, HB⟩ := hrel
    cases gk with
    | zero => exact absurd HA.out (by simp [spec_l01Text.l0])
    | succ k2 =>
     have H := HA.out
     clear HA
     simp only [spec_l01Text.l0] at H
     by_cases c7 : x6_2 < x1_2
     ·rw [if_pos c7] at H
      have c7b0 : decide (x6_2 < x1_2) = true := decide_eq_true c7
      clear c7
      replace H := Option.bind_eq_some_iff.mp H
      obtain ⟨⟨t242, t243, t244⟩, A80, H⟩ := H
      replace H : (if x5_2.length < 140737488355328 then (spec_l01Text.l0 k2 x1_2 (x5_2 ++ [(t242) % 256]) (wrap64 (x6_2 + 1)) s0_0 t243 t244) else (none)) = some (r1, r2, r3) := H
      have A8 := Aside0.mk A80
      clear A80
      by_cases c9 : x5_2.length < 140737488355328
      ·rw [if_pos c9] at H
       have LMc9 := Aside0.mk c9
       clear c9
       obtain ⟨y245, hy245⟩ : ∃ y_ : List Int, y_ = (x5_2 ++ [(t242) % 256]) := ⟨_, rfl⟩
       replace H : (spec_l01Text.l0 k2 x1_2 y245 (wrap64 (x6_2 + 1)) s0_0 t243 t244) = some (r1, r2, r3) := by first | (rw [hy245]; with_reducible exact H) | (have H2_ := (Option.bind_some _ _).symm.trans H; rw [hy245]; with_reducible exact H2_) | (have H2_ := (Option.bind_some _ _).symm.trans H; with_reducible exact H2_) | with_reducible exact H | (rw [hy245]; exact H) | exact H
       have Ny245 := Aside0.mk hy245
       clear hy245
       have H' := Aside0.mk H
       clear H
       go_wp2_with (first | ((with_reducible refine gate_callee (f := 162) rfl ?_); refine goesL_ (some 17) rfl rfl Try.func162 (by kernel_rfl) rfl #[.pointer (some ⟨g, 0, none⟩)] rfl qm ?_; (with_reducible refine (spec_l01Byte.calls g s0_0 x1001_2 x1002_2 t242 t243 t244 w0 _ ?side1 ?side2 A8.out).mono ?_); (case side1 => repeat (first | (with_reducible first | exact HI0.out | apply IsS157.alloc | apply IsS157.drewN | apply IsS157.drew | apply IsS157.set_1 | apply IsS157.set_2) | exact HI0.out)); (case side2 => repeat (first | (with_reducible first | exact HB.out | apply below_alloc | apply pw_below_drewN | apply below_drew1 | refine below_set ?_ (IsS157.ge HI0.out)) | exact HB.out)); rintro e w10 ⟨rfl, hi, hb, hk⟩; refine ⟨_, rfl, ?_⟩; have n0_ := Aside0.mk (Kd.R_mono (Kd.R_keep (IsS157.apart (show IsS157 w0 _ g s0_0 x1001_2 x1002_2 from by repeat (first | (with_reducible first | exact HI0.out | apply IsS157.alloc | apply IsS157.drewN | apply IsS157.drew | apply IsS157.set_1 | apply IsS157.set_2) | exact HI0.out)) (qr HO_5.out) (by decide)) hk (fun _ h => h.2)) (fun _ h => h.1)); have n1_ := Aside0.mk (KeepBut.trans (qh HK.out) hk (.inl rfl)); have n2_ := Aside0.mk (hb); have n3_ := Aside0.mk (hi); clear HO_5; clear HK; clear HB; clear HI0; have HO_5 := n0_; have HK := n1_; have HB := n2_; have HI0 := n3_; clear n0_ n1_ n2_ n3_; (try clear hb); (try clear hb2); (try clear hk); (try clear hi)) | ((with_reducible refine gate_builtin (b := .append) (xs := #[.tmp 15, .tmp 19]) rfl ?_); at_builtin; refine Kd.R_append (Kd.int .u8) w.heap.size rfl (.tmp 15) (.tmp 19) 65 5 (.int .u8 0) 1 rfl Try.underlying65 info5 rfl (by decide) (by omega) u5 x5_2 ((t242) % 256) [.int .u8 ((t242) % 256)] (fun _ => True) (fun _ => False) rfl rfl ?aP (fun _ hk => hk.elim) ?aF ?aO (Below.refl _ _) ?aS ?aL ?_; (case aP => exact rfl); (case aF => exact (fun _ _ => trivial)); (case aO => exact (qr HO_5.out)); (case aS => exact (keep_size (w := w) (g := g) (row := none) (qh HK.out))); (case aL => have := LMc9.out; omega); intro v246 w11 ho hb hg hat; rw [← Ny245.out] at ho; have n0_ := Aside0.mk (IsS157.grown (by repeat (first | (with_reducible first | exact HI0.out | apply IsS157.alloc | apply IsS157.drewN | apply IsS157.drew | apply IsS157.set_1 | apply IsS157.set_2) | exact HI0.out)) hg (IsS157.own_ne HI0.out HO_5.out (by decide))); have n1_ := Aside0.mk (below_weaken (qb1 HB.out (IsS157.ge HI0.out)) HL.out hb); have n2_ := Aside0.mk (KeepBut.trans (qh HK.out) (KeepBut.of_grown hg g) (Kd.R_base2 HO_5.out)); have n3_ := Aside0.mk (ho); clear HI0; clear HB; clear HK; clear HO_5; have HI0 := n0_; have HB := n1_; have HK := n2_; have HO247 := n3_; clear n0_ n1_ n2_ n3_; clear ho hb hg hat))
       go_roundg k2
       case measure => have := HJ2.out; have := HK2.out; omega
       case rel => exact ⟨(y245), (wrap64 (x6_2 + 1)), (t243), (t244), qz, H', ⟨by have := HJ2.out; have := HK2.out; omega⟩, ⟨qr HO247.out⟩, ⟨by repeat (first | (with_reducible first | exact HI0.out | apply IsS157.alloc | apply IsS157.drewN | apply IsS157.drew | apply IsS157.set_1 | apply IsS157.set_2) | exact HI0.out)⟩, ⟨qh HK.out⟩, ⟨qb1 HB.out (IsS157.ge HI0.out)⟩⟩
      ·rw [if_neg c9] at H
       exact absurd H (by simp)
     ·rw [if_neg c7] at H
      have c7b0 : decide (x6_2 < x1_2) = false := decide_eq_false c7
      clear c7
      simp only [Option.some.injEq, Prod.mk.injEq] at H
      obtain ⟨rfl, rfl, rfl⟩ := H
      have hcv12 := own_string (P := Try.prog) Try.underlying65 Try.underlying5 Try.underlying9 (Kd.own_of_R HO_5.out)
      go_wp2
      go_ret
      exact ⟨qe, by repeat (first | (with_reducible first | exact HI0.out | apply IsS157.alloc | apply IsS157.drewN | apply IsS157.drew | apply IsS157.set_1 | apply IsS157.set_2) | exact HI0.out), qb1 HB.out (IsS157.ge HI0.out), qh HK.out⟩

/-! ### spec_DirNew: function 146 -/
def spec_DirNew.f  : Option (Bool × (List (S69)) × ByteArray) := if 4 ≤ 11728124029610 then (some (true, (List.replicate 4 z69), (⟨#[]⟩ : ByteArray))) else (none)
set_option maxHeartbeats 8000000 in
set_option maxRecDepth 100000 in
theorem spec_DirNew.calls  (r1 : Bool) (r2 : List (S69)) (r3 : ByteArray) (w : World) (h : spec_DirNew.f  = some (r1, r2, r3)) :
  Calls Try.prog 146 #[] w fun e w' => ∃ v1_ : Value, e = .returned (.agg #[.bool r1, v1_, .string r3]) ∧ Kd.R k69 69 w' w.heap.size (fun _ => True) v1_ r2 ∧ Below w.heap.size w w' := by
 have hu59 := Try.underlying59
 have HB := Aside0.mk (Below.refl w.heap.size w)
 have H : (if 4 ≤ 11728124029610 then (some (true, (List.replicate 4 z69), (⟨#[]⟩ : ByteArray))) else (none)) = some (r1, r2, r3) := h
 clear h
 by_cases c1 : 4 ≤ 11728124029610
 ·rw [if_pos c1] at H
  have c1b0 := eq_true c1
  have c1b1 : decide (4 ≤ 11728124029610) = true := decide_eq_true c1
  clear c1
  obtain ⟨y249, hy249⟩ : ∃ y_ : List (S69), y_ = (List.replicate 4 z69) := ⟨_, rfl⟩
  replace H : (some (true, y249, (⟨#[]⟩ : ByteArray))) = some (r1, r2, r3) := by first | (rw [hy249]; with_reducible exact H) | (have H2_ := (Option.bind_some _ _).symm.trans H; rw [hy249]; with_reducible exact H2_) | (have H2_ := (Option.bind_some _ _).symm.trans H; with_reducible exact H2_) | with_reducible exact H | (rw [hy249]; exact H) | exact H
  have Ny249 := Aside0.mk hy249
  clear hy249
  simp only [Option.some.injEq, Prod.mk.injEq] at H
  obtain ⟨rfl, rfl, rfl⟩ := H
  go_enter Try.func146, Try.ntmps146
  go_wp2_with (first | ((with_reducible refine gate_dst (N := 0) rfl ?_); refine box_event ?hg (N := 0) ?hd (cs := #[.bool false, .slice none 0 0, .string (⟨#[]⟩ : ByteArray)]) (t := 59) ?hr ?_; (case hd => rfl); (case hg => rfl); (case hr => first | (go_simp; done) | (go_simp; rfl)); intro gb248 hg w2 hbox hb; have n0_ := Aside0.mk (below_step (qb HB.out) hb); have n1_ := Aside0.mk (hbox); have n2_ := Aside0.mk ((by rw [hg]; exact (below_size (qb HB.out)) : w.heap.size ≤ gb248)); have n3_ := Aside0.mk ((by rw [hg]; exact (below_size (qb HB.out)) : w.heap.size ≤ gb248)); clear HB; have HB := n0_; have BK248 := n1_; have GW248 := n2_; have GE248 := n3_; clear n0_ n1_ n2_ n3_; clear hb hbox hg) | ((with_reducible refine gate_dst (N := 1) rfl ?_); refine Kd.R_make k69 _ 69 rfl (N := 1) rfl 57 _ _ rfl 4 rfl rfl Try.underlying57 (.agg #[(.string ⟨#[]⟩), (.int .i64 0)]) 24 info69 rfl (by decide) (by omega) z69 (ok := fun _ => True) (okp := fun _ => True) (k69_mkM _ _ _ z69 ) (fun _ hk => hk) trivial (by omega) (by omega) (Below.refl _ _) (Nat.le_refl _) ?_; intro v250 w3 ho4 hb hg_ hnew_; clear hg_ hnew_; (first | rw [← Ny249.out] at ho4 | (simp only [Int.reduceToNat] at ho4; rw [← Ny249.out] at ho4)); have n0_ := Aside0.mk (Kd.R_lower ho4 (below_size (qb1 HB.out GE248.out))); have n1_ := Aside0.mk (blk_below (g := gb248) (o := .cells #[.bool false, .slice none 0 0, .string (⟨#[]⟩ : ByteArray)] 59 (0, 0)) (qk BK248.out) hb); have n2_ := Aside0.mk (below_step (qb1 HB.out GE248.out) hb); clear BK248; clear HB; have HO251 := n0_; have BK248 := n1_; have HB := n2_; clear n0_ n1_ n2_; clear hb ho4; obtain ⟨Ao5, co5, eo5⟩ := Kd.R_slice HO251.out; subst eo5; have hcz6_0 : w3.cell? ⟨gb248, 0, none⟩ = some (.bool false) := (blk_cell BK248.out 0).trans rfl; have hcz6_1 : w3.cell? ⟨gb248, 1, none⟩ = some (.slice none 0 0) := (blk_cell BK248.out 1).trans rfl; have hcz6_2 : w3.cell? ⟨gb248, 2, none⟩ = some (.string (⟨#[]⟩ : ByteArray)) := (blk_cell BK248.out 2).trans rfl; have hfz6_0 := blk_frozen BK248.out 0; have hfz6_1 := blk_frozen BK248.out 1; have hfz6_2 := blk_frozen BK248.out 2))
  refine bodyPost_ret (results_cell_row rfl _ _ gb248 59 #[.bool true, .slice Ao5 y249.length co5, .string (⟨#[]⟩ : ByteArray)] (0, 0) _ rfl (by refine qK ?_; refine blk_put (cs := #[.bool true, .slice Ao5 y249.length co5, .string (⟨#[]⟩ : ByteArray)]) ?_ 2 _ rfl; refine qK ?_; refine blk_put (cs := #[.bool true, .slice none 0 0, .string (⟨#[]⟩ : ByteArray)]) ?_ 1 _ rfl; refine qK ?_; refine blk_put (cs := #[.bool false, .slice none 0 0, .string (⟨#[]⟩ : ByteArray)]) ?_ 0 _ rfl; refine qK ?_; exact BK248.out) Try.underlying59 rfl (by kernel_rfl)) rfl ?_
  exact ⟨_, qe, by refine qR ?_; exact Kd.R_mono (Kd.R_far (p := ⟨gb248, 2, none⟩) (Kd.R_far (p := ⟨gb248, 1, none⟩) (Kd.R_far (p := ⟨gb248, 0, none⟩) (Kd.R_types HO251.out BK248.out (by decide)) (fun _ hk => hk.2) (.bool true)) (fun _ hk => hk.2) (.slice Ao5 y249.length co5)) (fun _ hk => hk.2) (.string (⟨#[]⟩ : ByteArray))) (fun _ hk => trivial), qb1 HB.out GE248.out⟩
 ·rw [if_neg c1] at H
  exact absurd H (by simp)

/-! ### spec_l04Block: function 95 -/
def spec_l04Block.l0 : Nat → Int → List Int → Int → Int → Bool → List (S69) → ByteArray → Option (Bool × (List (S69)) × ByteArray × Int × Int)
 | 0, _, _, _, _, _, _, _ => none
 | k + 1, x4, x1000, x1001, x1002, x268000, x268001, x268002 => if x4 < 4 then ((spec_l04Name.f x1000 x1001 x1002).bind fun bt268 => ((spec_l01Below.f x1000 bt268.2.1 bt268.2.2 8).bind fun bt271 => ((spec_SlotOf.f k x268000 x268001 x268002 bt268.1).bind fun t275 => (if t275 < 0 then ((spec_l01Once.f x1000 bt271.2.1 bt271.2.2 2).bind fun bt276 => (if bt276.1 = true then (if 0 ≤ x4 then (if x4 < (x268001.length : Int) then (spec_l04Block.l0 k (wrap64 (x4 + 1)) x1000 bt276.2.1 bt276.2.2 x268000 (x268001.set (x4 : Int).toNat (⟨bt268.1, wrap64 (1 + bt271.1)⟩ : S69)) x268002) else (none)) else (none)) else (spec_l04Block.l0 k (wrap64 (x4 + 1)) x1000 bt276.2.1 bt276.2.2 x268000 x268001 x268002))) else (spec_l04Block.l0 k (wrap64 (x4 + 1)) x1000 bt271.2.1 bt271.2.2 x268000 x268001 x268002))))) else (some (x268000, x268001, x268002, x1001, x1002))
def spec_l04Block.f (k : Nat) (s0_0 : List Int) (s0_1 : Int) (s0_2 : Int) : Option (Bool × (List (S69)) × ByteArray × Int × Int) := (spec_l01Once.f s0_0 s0_1 s0_2 2).bind fun bt253 => (if bt253.1 = true then ((spec_l01Below.f s0_0 bt253.2.1 bt253.2.2 17).bind fun bt256 => ((spec_l01Text.f k s0_0 bt256.2.1 bt256.2.2 bt256.1).bind fun bt259 => (some (false, ([] : List (S69)), bt259.1, bt259.2.1, bt259.2.2)))) else ((spec_DirNew.f).bind fun bt262 => (spec_l04Block.l0 k 0 s0_0 bt253.2.1 bt253.2.2 bt262.1 bt262.2.1 bt262.2.2)))
theorem spec_l04Block.mono_l : ∀ k, (∀ y0 y1 y2 y3 y4 y5 y6, LeO (spec_l04Block.l0 k y0 y1 y2 y3 y4 y5 y6) (spec_l04Block.l0 (k + 1) y0 y1 y2 y3 y4 y5 y6))
 | 0 => fun _ _ _ _ _ _ _ r h => by simp [spec_l04Block.l0] at h
 | k + 1 => by
  have ih0 := spec_l04Block.mono_l k
  ·intro y0 y1 y2 y3 y4 y5 y6
   unfold spec_l04Block.l0
   repeat' first
   | (with_reducible exact ih0 _ _ _ _ _ _ _)
   | (with_reducible exact spec_SlotOf.mono _ _ _ _ _)
   | (with_reducible exact spec_l01Text.mono _ _ _ _ _)
   | with_reducible first | exact LeO.refl _ | exact LeO.none _ | refine LeO.ite ?_ ?_ | refine LeO.bind ?_ (fun _ => ?_)
   | exact ih0 _ _ _ _ _ _ _
   | exact spec_SlotOf.mono _ _ _ _ _
   | exact spec_l01Text.mono _ _ _ _ _
   | exact LeO.none _
   | refine LeO.ite ?_ ?_
   | refine LeO.bind ?_ (fun _ => ?_)
theorem spec_l04Block.mono : ∀ a0 a1 a2 k, LeO (spec_l04Block.f k a0 a1 a2) (spec_l04Block.f (k + 1) a0 a1 a2) := by
 intro a0 a1 a2 k
 have ih0 := spec_l04Block.mono_l k
 unfold spec_l04Block.f
 repeat' first
   | (with_reducible exact ih0 _ _ _ _ _ _ _)
   | (with_reducible exact spec_SlotOf.mono _ _ _ _ _)
   | (with_reducible exact spec_l01Text.mono _ _ _ _ _)
   | with_reducible first | exact LeO.refl _ | exact LeO.none _ | refine LeO.ite ?_ ?_ | refine LeO.bind ?_ (fun _ => ?_)
   | exact ih0 _ _ _ _ _ _ _
   | exact spec_SlotOf.mono _ _ _ _ _
   | exact spec_l01Text.mono _ _ _ _ _
   | exact LeO.none _
   | refine LeO.ite ?_ ?_
   | refine LeO.bind ?_ (fun _ => ?_)
set_option maxHeartbeats 8000000 in
set_option maxRecDepth 100000 in
theorem spec_l04Block.calls (k : Nat) (g : Nat) (s0_0 : List Int) (s0_1 : Int) (s0_2 : Int) (r1 : Bool) (r2 : List (S69)) (r3 : ByteArray) (r4 : Int) (r5 : Int) (w0 w : World) (hI : IsS157 w0 w g s0_0 s0_1 s0_2) (hB : Below w0.heap.size w0 w) (h : spec_l04Block.f k s0_0 s0_1 s0_2 = some (r1, r2, r3, r4, r5)) :
  Calls Try.prog 95 #[.pointer (some ⟨g, 0, none⟩)] w fun e w' => ∃ v1_ : Value, e = .returned (.agg #[.bool r1, v1_, .string r3]) ∧ Kd.R k69 69 w' w.heap.size (fun _ => True) v1_ r2 ∧ IsS157 w0 w' g s0_0 r4 r5 ∧ Below w0.heap.size w0 w' ∧ KeepBut w w' g none := by
 have hu59 := Try.underlying59
 have hu69 := Try.underlying69
 have HI0 := Aside0.mk hI
 have HK := Aside0.mk (KeepBut.refl w g none)
 have HL := Aside0.mk hB.size
 clear hI
 have HW0 := Aside0.mk hB.size
 have HB := Aside0.mk hB
 clear hB
 have H : ((spec_l01Once.f s0_0 s0_1 s0_2 2).bind fun bt253 => (if bt253.1 = true then ((spec_l01Below.f s0_0 bt253.2.1 bt253.2.2 17).bind fun bt256 => ((spec_l01Text.f k s0_0 bt256.2.1 bt256.2.2 bt256.1).bind fun bt259 => (some (false, ([] : List (S69)), bt259.1, bt259.2.1, bt259.2.2)))) else ((spec_DirNew.f).bind fun bt262 => (spec_l04Block.l0 k 0 s0_0 bt253.2.1 bt253.2.2 bt262.1 bt262.2.1 bt262.2.2)))) = some (r1, r2, r3, r4, r5) := h
 clear h
 replace H := Option.bind_eq_some_iff.mp H
 obtain ⟨⟨t253, t254, t255⟩, A20, H⟩ := H
 replace H : (if t253 = true then ((spec_l01Below.f s0_0 t254 t255 17).bind fun bt256 => ((spec_l01Text.f k s0_0 bt256.2.1 bt256.2.2 bt256.1).bind fun bt259 => (some (false, ([] : List (S69)), bt259.1, bt259.2.1, bt259.2.2)))) else ((spec_DirNew.f).bind fun bt262 => (spec_l04Block.l0 k 0 s0_0 t254 t255 bt262.1 bt262.2.1 bt262.2.2))) = some (r1, r2, r3, r4, r5) := H
 have A2 := Aside0.mk A20
 clear A20
 by_cases c3 : t253 = true
 ·subst c3
  have H1 : ((spec_l01Below.f s0_0 t254 t255 17).bind fun bt256 => ((spec_l01Text.f k s0_0 bt256.2.1 bt256.2.2 bt256.1).bind fun bt259 => (some (false, ([] : List (S69)), bt259.1, bt259.2.1, bt259.2.2)))) = some (r1, r2, r3, r4, r5) := by rw [if_pos rfl] at H; exact H
  clear H
  have H := H1
  clear H1
  replace H := Option.bind_eq_some_iff.mp H
  obtain ⟨⟨t256, t257, t258⟩, A40, H⟩ := H
  replace H : ((spec_l01Text.f k s0_0 t257 t258 t256).bind fun bt259 => (some (false, ([] : List (S69)), bt259.1, bt259.2.1, bt259.2.2))) = some (r1, r2, r3, r4, r5) := H
  have A4 := Aside0.mk A40
  clear A40
  replace H := Option.bind_eq_some_iff.mp H
  obtain ⟨⟨t259, t260, t261⟩, A50, H⟩ := H
  replace H : (some (false, ([] : List (S69)), t259, t260, t261)) = some (r1, r2, r3, r4, r5) := H
  have A5 := Aside0.mk A50
  clear A50
  simp only [Option.some.injEq, Prod.mk.injEq] at H
  obtain ⟨rfl, rfl, rfl, rfl, rfl⟩ := H
  go_enter Try.func95, Try.ntmps95
  go_wp2_with (first | ((with_reducible refine gate_dst (N := 2) rfl ?_); refine box_event ?hg (N := 2) ?hd (cs := #[.bool false, .slice none 0 0, .string (⟨#[]⟩ : ByteArray)]) (t := 59) ?hr ?_; (case hd => rfl); (case hg => rfl); (case hr => first | (go_simp; done) | (go_simp; rfl)); intro gb252 hg w6 hbox hb; have n0_ := Aside0.mk (IsS157.below (by repeat (first | (with_reducible first | exact HI0.out | apply IsS157.alloc | apply IsS157.drewN | apply IsS157.drew | apply IsS157.set_1 | apply IsS157.set_2) | exact HI0.out)) hb); have n1_ := Aside0.mk (KeepBut.trans (qh HK.out) (KeepBut.of_below hb g none) (.inl rfl)); have n2_ := Aside0.mk (below_step (qb1 HB.out (IsS157.ge HI0.out)) hb); have n3_ := Aside0.mk (hbox); have n4_ := Aside0.mk ((by rw [hg]; exact (keep_size (w := w) (g := g) (row := none) (qh HK.out)) : w.heap.size ≤ gb252)); have n5_ := Aside0.mk ((Nat.le_trans HW0.out (by rw [hg]; exact (keep_size (w := w) (g := g) (row := none) (qh HK.out)) : w.heap.size ≤ gb252) : w0.heap.size ≤ gb252)); have n6_ := Aside0.mk ((by rw [hg]; exact Nat.ne_of_lt (IsS157.lt (show IsS157 w0 _ g s0_0 s0_1 s0_2 from by repeat (first | (with_reducible first | exact HI0.out | apply IsS157.alloc | apply IsS157.drewN | apply IsS157.drew | apply IsS157.set_1 | apply IsS157.set_2) | exact HI0.out))) : g ≠ gb252)); have n7_ := Aside0.mk ((by rw [hg]; exact Nat.ne_of_gt (IsS157.lt (show IsS157 w0 _ g s0_0 s0_1 s0_2 from by repeat (first | (with_reducible first | exact HI0.out | apply IsS157.alloc | apply IsS157.drewN | apply IsS157.drew | apply IsS157.set_1 | apply IsS157.set_2) | exact HI0.out))) : gb252 ≠ g)); clear HI0; clear HK; clear HB; have HI0 := n0_; have HK := n1_; have HB := n2_; have BK252 := n3_; have GW252 := n4_; have GE252 := n5_; have NB0_252 := n6_; have NB252_0 := n7_; clear n0_ n1_ n2_ n3_ n4_ n5_ n6_ n7_; clear hb hbox hg) | ((with_reducible refine gate_callee (f := 99) rfl ?_); refine goesL_ (some 7) rfl rfl Try.func99 (by kernel_rfl) rfl #[.pointer (some ⟨g, 0, none⟩), .int .i64 2] rfl qm ?_; (with_reducible refine (spec_l01Once.calls g s0_0 s0_1 s0_2 2 true t254 t255 w0 _ ?side1 ?side2 A2.out).mono ?_); (case side1 => repeat (first | (with_reducible first | exact HI0.out | apply IsS157.alloc | apply IsS157.drewN | apply IsS157.drew | apply IsS157.set_1 | apply IsS157.set_2 | refine IsS157.far ?_ NB0_252.out _) | exact HI0.out)); (case side2 => repeat (first | (with_reducible first | exact HB.out | apply below_alloc | apply pw_below_drewN | apply below_drew1 | refine below_set ?_ (IsS157.ge HI0.out) | refine below_set ?_ GE252.out) | exact HB.out)); rintro e w7 ⟨rfl, hi, hb, hk⟩; refine ⟨_, rfl, ?_⟩; have n0_ := Aside0.mk (KeepBut.blk hk (g' := gb252) (o := .cells #[.bool false, .slice none 0 0, .string (⟨#[]⟩ : ByteArray)] 59 (0, 0)) (qk BK252.out) NB252_0.out (by simp)); have n1_ := Aside0.mk (KeepBut.trans (qh1 HK.out GW252.out) hk (.inl rfl)); have n2_ := Aside0.mk (hb); have n3_ := Aside0.mk (hi); clear BK252; clear HK; clear HB; clear HI0; have BK252 := n0_; have HK := n1_; have HB := n2_; have HI0 := n3_; clear n0_ n1_ n2_ n3_; (try clear hb); (try clear hb2); (try clear hk); (try clear hi)) | ((with_reducible refine gate_callee (f := 145) rfl ?_); refine goesL_ (some 10) rfl rfl Try.func145 (by kernel_rfl) rfl #[.pointer (some ⟨g, 0, none⟩), .int .i64 17] rfl qm ?_; (with_reducible refine (spec_l01Below.calls g s0_0 t254 t255 17 t256 t257 t258 w0 _ ?side1 ?side2 A4.out).mono ?_); (case side1 => repeat (first | (with_reducible first | exact HI0.out | apply IsS157.alloc | apply IsS157.drewN | apply IsS157.drew | apply IsS157.set_1 | apply IsS157.set_2 | refine IsS157.far ?_ NB0_252.out _) | exact HI0.out)); (case side2 => repeat (first | (with_reducible first | exact HB.out | apply below_alloc | apply pw_below_drewN | apply below_drew1 | refine below_set ?_ (IsS157.ge HI0.out) | refine below_set ?_ GE252.out) | exact HB.out)); rintro e w8 ⟨rfl, hi, hb, hk⟩; refine ⟨_, rfl, ?_⟩; have n0_ := Aside0.mk (KeepBut.blk hk (g' := gb252) (o := .cells #[.bool false, .slice none 0 0, .string (⟨#[]⟩ : ByteArray)] 59 (0, 0)) (qk BK252.out) NB252_0.out (by simp)); have n1_ := Aside0.mk (KeepBut.trans (qh1 HK.out GW252.out) hk (.inl rfl)); have n2_ := Aside0.mk (hb); have n3_ := Aside0.mk (hi); clear BK252; clear HK; clear HB; clear HI0; have BK252 := n0_; have HK := n1_; have HB := n2_; have HI0 := n3_; clear n0_ n1_ n2_ n3_; (try clear hb); (try clear hb2); (try clear hk); (try clear hi)) | ((with_reducible refine gate_callee (f := 144) rfl ?_); refine goesL_ (some 11) rfl rfl Try.func144 (by kernel_rfl) rfl #[.pointer (some ⟨g, 0, none⟩), .int .i64 t256] rfl qm ?_; (with_reducible refine (spec_l01Text.calls k g s0_0 t257 t258 t256 t259 t260 t261 w0 _ ?side1 ?side2 A5.out).mono ?_); (case side1 => repeat (first | (with_reducible first | exact HI0.out | apply IsS157.alloc | apply IsS157.drewN | apply IsS157.drew | apply IsS157.set_1 | apply IsS157.set_2 | refine IsS157.far ?_ NB0_252.out _) | exact HI0.out)); (case side2 => repeat (first | (with_reducible first | exact HB.out | apply below_alloc | apply pw_below_drewN | apply below_drew1 | refine below_set ?_ (IsS157.ge HI0.out) | refine below_set ?_ GE252.out) | exact HB.out)); rintro e w9 ⟨rfl, hi, hb, hk⟩; refine ⟨_, rfl, ?_⟩; have n0_ := Aside0.mk (KeepBut.blk hk (g' := gb252) (o := .cells #[.bool false, .slice none 0 0, .string (⟨#[]⟩ : ByteArray)] 59 (0, 0)) (qk BK252.out) NB252_0.out (by simp)); have n1_ := Aside0.mk (KeepBut.trans (qh1 HK.out GW252.out) hk (.inl rfl)); have n2_ := Aside0.mk (hb); have n3_ := Aside0.mk (hi); clear BK252; clear HK; clear HB; clear HI0; have BK252 := n0_; have HK := n1_; have HB := n2_; have HI0 := n3_; clear n0_ n1_ n2_ n3_; (try clear hb); (try clear hb2); (try clear hk); (try clear hi); have hnb10 := NB252_0.out; have hnc10 := NB0_252.out; have hcz11_0 : w9.cell? ⟨gb252, 0, none⟩ = some (.bool false) := (blk_cell BK252.out 0).trans rfl; have hcz11_1 : w9.cell? ⟨gb252, 1, none⟩ = some (.slice none 0 0) := (blk_cell BK252.out 1).trans rfl; have hcz11_2 : w9.cell? ⟨gb252, 2, none⟩ = some (.string (⟨#[]⟩ : ByteArray)) := (blk_cell BK252.out 2).trans rfl; have hfz11_0 := blk_frozen BK252.out 0; have hfz11_1 := blk_frozen BK252.out 1; have hfz11_2 := blk_frozen BK252.out 2))
  refine bodyPost_ret (results_cell_row rfl _ _ gb252 59 #[.bool false, .slice none 0 0, .string t259] (0, 0) _ rfl (by refine qK ?_; refine blk_put (cs := #[.bool false, .slice none 0 0, .string (⟨#[]⟩ : ByteArray)]) ?_ 2 _ rfl; refine qK ?_; refine blk_put (cs := #[.bool false, .slice none 0 0, .string (⟨#[]⟩ : ByteArray)]) ?_ 1 _ rfl; refine qK ?_; refine blk_put (cs := #[.bool false, .slice none 0 0, .string (⟨#[]⟩ : ByteArray)]) ?_ 0 _ rfl; refine qK ?_; exact BK252.out) Try.underlying59 rfl (by kernel_rfl)) rfl ?_
  exact ⟨_, qe, by first | exact Kd.R_nil _ _ _ _ _ | exact Kd.N_nil _ _ _ _ _ | exact Kd.V_nil _ _ _ _ _ | exact Kd.Q_nil _ _ _ _ _ | exact Kd.S_nil _ _ _ _ _, by repeat (first | (with_reducible first | exact HI0.out | apply IsS157.alloc | apply IsS157.drewN | apply IsS157.drew | apply IsS157.set_1 | apply IsS157.set_2 | refine IsS157.far ?_ NB0_252.out _) | exact HI0.out), qb2 HB.out (IsS157.ge HI0.out) GE252.out, qh1 HK.out GW252.out⟩
 ·replace c3 := Bool.eq_false_iff.mpr c3
  subst c3
  have H1 : ((spec_DirNew.f).bind fun bt262 => (spec_l04Block.l0 k 0 s0_0 t254 t255 bt262.1 bt262.2.1 bt262.2.2)) = some (r1, r2, r3, r4, r5) := by rw [if_neg (show ¬ (false = true) by decide)] at H; exact H
  clear H
  have H := H1
  clear H1
  replace H := Option.bind_eq_some_iff.mp H
  obtain ⟨⟨t262, t263, t266⟩, A120, H⟩ := H
  replace H : (spec_l04Block.l0 k 0 s0_0 t254 t255 t262 t263 t266) = some (r1, r2, r3, r4, r5) := H
  have A12 := Aside0.mk A120
  clear A120
  have H' := Aside0.mk H
  clear H
  go_enter Try.func95, Try.ntmps95
  go_wp2_with (first | ((with_reducible refine gate_dst (N := 2) rfl ?_); refine box_event ?hg (N := 2) ?hd (cs := #[.bool false, .slice none 0 0, .string (⟨#[]⟩ : ByteArray)]) (t := 59) ?hr ?_; (case hd => rfl); (case hg => rfl); (case hr => first | (go_simp; done) | (go_simp; rfl)); intro gb252 hg w13 hbox hb; have n0_ := Aside0.mk (IsS157.below (by repeat (first | (with_reducible first | exact HI0.out | apply IsS157.alloc | apply IsS157.drewN | apply IsS157.drew | apply IsS157.set_1 | apply IsS157.set_2) | exact HI0.out)) hb); have n1_ := Aside0.mk (KeepBut.trans (qh HK.out) (KeepBut.of_below hb g none) (.inl rfl)); have n2_ := Aside0.mk (below_step (qb1 HB.out (IsS157.ge HI0.out)) hb); have n3_ := Aside0.mk (hbox); have n4_ := Aside0.mk ((by rw [hg]; exact (keep_size (w := w) (g := g) (row := none) (qh HK.out)) : w.heap.size ≤ gb252)); have n5_ := Aside0.mk ((Nat.le_trans HW0.out (by rw [hg]; exact (keep_size (w := w) (g := g) (row := none) (qh HK.out)) : w.heap.size ≤ gb252) : w0.heap.size ≤ gb252)); have n6_ := Aside0.mk ((by rw [hg]; exact Nat.ne_of_lt (IsS157.lt (show IsS157 w0 _ g s0_0 s0_1 s0_2 from by repeat (first | (with_reducible first | exact HI0.out | apply IsS157.alloc | apply IsS157.drewN | apply IsS157.drew | apply IsS157.set_1 | apply IsS157.set_2) | exact HI0.out))) : g ≠ gb252)); have n7_ := Aside0.mk ((by rw [hg]; exact Nat.ne_of_gt (IsS157.lt (show IsS157 w0 _ g s0_0 s0_1 s0_2 from by repeat (first | (with_reducible first | exact HI0.out | apply IsS157.alloc | apply IsS157.drewN | apply IsS157.drew | apply IsS157.set_1 | apply IsS157.set_2) | exact HI0.out))) : gb252 ≠ g)); clear HI0; clear HK; clear HB; have HI0 := n0_; have HK := n1_; have HB := n2_; have BK252 := n3_; have GW252 := n4_; have GE252 := n5_; have NB0_252 := n6_; have NB252_0 := n7_; clear n0_ n1_ n2_ n3_ n4_ n5_ n6_ n7_; clear hb hbox hg) | ((with_reducible refine gate_callee (f := 99) rfl ?_); refine goesL_ (some 7) rfl rfl Try.func99 (by kernel_rfl) rfl #[.pointer (some ⟨g, 0, none⟩), .int .i64 2] rfl qm ?_; (with_reducible refine (spec_l01Once.calls g s0_0 s0_1 s0_2 2 false t254 t255 w0 _ ?side1 ?side2 A2.out).mono ?_); (case side1 => repeat (first | (with_reducible first | exact HI0.out | apply IsS157.alloc | apply IsS157.drewN | apply IsS157.drew | apply IsS157.set_1 | apply IsS157.set_2 | refine IsS157.far ?_ NB0_252.out _) | exact HI0.out)); (case side2 => repeat (first | (with_reducible first | exact HB.out | apply below_alloc | apply pw_below_drewN | apply below_drew1 | refine below_set ?_ (IsS157.ge HI0.out) | refine below_set ?_ GE252.out) | exact HB.out)); rintro e w14 ⟨rfl, hi, hb, hk⟩; refine ⟨_, rfl, ?_⟩; have n0_ := Aside0.mk (KeepBut.blk hk (g' := gb252) (o := .cells #[.bool false, .slice none 0 0, .string (⟨#[]⟩ : ByteArray)] 59 (0, 0)) (qk BK252.out) NB252_0.out (by simp)); have n1_ := Aside0.mk (KeepBut.trans (qh1 HK.out GW252.out) hk (.inl rfl)); have n2_ := Aside0.mk (hb); have n3_ := Aside0.mk (hi); clear BK252; clear HK; clear HB; clear HI0; have BK252 := n0_; have HK := n1_; have HB := n2_; have HI0 := n3_; clear n0_ n1_ n2_ n3_; (try clear hb); (try clear hb2); (try clear hk); (try clear hi)) | ((with_reducible refine gate_callee (f := 146) rfl ?_); refine goesL_ (some 13) rfl rfl Try.func146 (by kernel_rfl) rfl #[] rfl qm ?_; (with_reducible refine (spec_DirNew.calls  t262 t263 t266 _ A12.out).mono ?_); rintro e w15 ⟨v264, rfl, ho0, hb⟩; refine ⟨_, rfl, ?_⟩; have n0_ := Aside0.mk (Kd.R_lower ho0 (keep_size (w := w) (g := g) (row := none) (qh1 HK.out GW252.out))); have n1_ := Aside0.mk (IsS157.below (by repeat (first | (with_reducible first | exact HI0.out | apply IsS157.alloc | apply IsS157.drewN | apply IsS157.drew | apply IsS157.set_1 | apply IsS157.set_2 | refine IsS157.far ?_ NB0_252.out _) | exact HI0.out)) hb); have n2_ := Aside0.mk (blk_below (g := gb252) (o := .cells #[.bool false, .slice none 0 0, .string (⟨#[]⟩ : ByteArray)] 59 (0, 0)) (qk BK252.out) hb); have n3_ := Aside0.mk (KeepBut.trans (qh1 HK.out GW252.out) (KeepBut.of_below hb g none) (.inl rfl)); have n4_ := Aside0.mk (below_step (qb2 HB.out (IsS157.ge HI0.out) GE252.out) hb); clear HI0; clear BK252; clear HK; clear HB; have HO265 := n0_; have HI0 := n1_; have BK252 := n2_; have HK := n3_; have HB := n4_; clear n0_ n1_ n2_ n3_ n4_; (try clear hb); (try clear hb2); (try clear hk); (try clear hi); (try clear ho0)) | ((with_reducible refine gate_dst (N := 3) rfl ?_); refine box_event ?hg (N := 3) ?hd (cs := #[.bool false, .slice none 0 0, .string (⟨#[]⟩ : ByteArray)]) (t := 59) ?hr ?_; (case hd => rfl); (case hg => rfl); (case hr => first | (go_simp; done) | (go_simp; rfl)); intro gb267 hg w16 hbox hb; have n0_ := Aside0.mk (Kd.R_below (qr HO265.out) hb); have n1_ := Aside0.mk (IsS157.below (by repeat (first | (with_reducible first | exact HI0.out | apply IsS157.alloc | apply IsS157.drewN | apply IsS157.drew | apply IsS157.set_1 | apply IsS157.set_2 | refine IsS157.far ?_ NB0_252.out _) | exact HI0.out)) hb); have n2_ := Aside0.mk (blk_below (g := gb252) (o := .cells #[.bool false, .slice none 0 0, .string (⟨#[]⟩ : ByteArray)] 59 (0, 0)) (qk BK252.out) hb); have n3_ := Aside0.mk (KeepBut.trans (qh1 HK.out GW252.out) (KeepBut.of_below hb g none) (.inl rfl)); have n4_ := Aside0.mk (below_step (qb2 HB.out (IsS157.ge HI0.out) GE252.out) hb); have n5_ := Aside0.mk (hbox); have n6_ := Aside0.mk ((by rw [hg]; exact (keep_size (w := w) (g := g) (row := none) (qh1 HK.out GW252.out)) : w.heap.size ≤ gb267)); have n7_ := Aside0.mk ((Nat.le_trans HW0.out (by rw [hg]; exact (keep_size (w := w) (g := g) (row := none) (qh1 HK.out GW252.out)) : w.heap.size ≤ gb267) : w0.heap.size ≤ gb267)); have n8_ := Aside0.mk ((by rw [hg]; exact Nat.ne_of_lt (blk_lt (g := gb252) (o := .cells #[.bool false, .slice none 0 0, .string (⟨#[]⟩ : ByteArray)] 59 (0, 0)) (qk BK252.out)) : gb252 ≠ gb267)); have n9_ := Aside0.mk ((by rw [hg]; exact Nat.ne_of_gt (blk_lt (g := gb252) (o := .cells #[.bool false, .slice none 0 0, .string (⟨#[]⟩ : ByteArray)] 59 (0, 0)) (qk BK252.out)) : gb267 ≠ gb252)); have n10_ := Aside0.mk ((by rw [hg]; exact Nat.ne_of_lt (IsS157.lt (show IsS157 w0 _ g s0_0 t254 t255 from by repeat (first | (with_reducible first | exact HI0.out | apply IsS157.alloc | apply IsS157.drewN | apply IsS157.drew | apply IsS157.set_1 | apply IsS157.set_2 | refine IsS157.far ?_ NB0_252.out _) | exact HI0.out))) : g ≠ gb267)); have n11_ := Aside0.mk ((by rw [hg]; exact Nat.ne_of_gt (IsS157.lt (show IsS157 w0 _ g s0_0 t254 t255 from by repeat (first | (with_reducible first | exact HI0.out | apply IsS157.alloc | apply IsS157.drewN | apply IsS157.drew | apply IsS157.set_1 | apply IsS157.set_2 | refine IsS157.far ?_ NB0_252.out _) | exact HI0.out))) : gb267 ≠ g)); clear HO265; clear HI0; clear BK252; clear HK; clear HB; have HO265 := n0_; have HI0 := n1_; have BK252 := n2_; have HK := n3_; have HB := n4_; have BK267 := n5_; have GW267 := n6_; have GE267 := n7_; have NB252_267 := n8_; have NB267_252 := n9_; have NB0_267 := n10_; have NB267_0 := n11_; clear n0_ n1_ n2_ n3_ n4_ n5_ n6_ n7_ n8_ n9_ n10_ n11_; clear hb hbox hg; have hnb17 := NB267_252.out; have hnc17 := NB252_267.out; have hnb18 := NB267_0.out; have hnc18 := NB0_267.out; have hcz19_0 : w16.cell? ⟨gb267, 0, none⟩ = some (.bool false) := (blk_cell BK267.out 0).trans rfl; have hcz19_1 : w16.cell? ⟨gb267, 1, none⟩ = some (.slice none 0 0) := (blk_cell BK267.out 1).trans rfl; have hcz19_2 : w16.cell? ⟨gb267, 2, none⟩ = some (.string (⟨#[]⟩ : ByteArray)) := (blk_cell BK267.out 2).trans rfl; have hfz19_0 := blk_frozen BK267.out 0; have hfz19_1 := blk_frozen BK267.out 1; have hfz19_2 := blk_frozen BK267.out 2; obtain ⟨Ao20, co20, eo20⟩ := Kd.R_slice HO265.out; subst eo20))
  go_loopg [4] k (fun kq v4 w' => ∃ (x4_1 : Int) (x1001_1 : Int) (x1002_1 : Int) (x268001_1 : List (S69)) (u268001 : Value), v4 = .int .i64 x4_1 ∧ Aside0 (spec_l04Block.l0 kq x4_1 s0_0 x1001_1 x1002_1 t262 x268001_1 t266 = some (r1, r2, r3, r4, r5)) ∧ Aside0 (kq ≤ k) ∧ Aside0 (Kd.R k69 69 w' w.heap.size (fun _ => True) u268001 x268001_1) ∧ Aside0 (w'.heap[gb252]? = some (.cells #[.bool false, (.slice none 0 0), .string (⟨#[]⟩ : ByteArray)] 59 (0, 0))) ∧ Aside0 (w'.heap[gb267]? = some (.cells #[.bool t262, u268001, .string t266] 59 (0, 0))) ∧ Aside0 (IsS157 w0 w' g s0_0 x1001_1 x1002_1) ∧ Aside0 (KeepBut w w' g none) ∧ Aside0 (Below w0.heap.size w0 w'))
  case atStart => exact ⟨(0), (t254), (t255), (t263), (.slice Ao20 t263.length co20), qz, H', ⟨Nat.le_refl _⟩, ⟨by refine qR ?_; exact Kd.R_mono (Kd.R_far (p := ⟨gb267, 2, none⟩) (Kd.R_far (p := ⟨gb267, 1, none⟩) (Kd.R_far (p := ⟨gb267, 0, none⟩) (Kd.R_types HO265.out BK267.out (by decide)) (fun _ hk => hk.2) (.bool t262)) (fun _ hk => hk.2) (.slice Ao20 t263.length co20)) (fun _ hk => hk.2) (.string t266)) (fun _ hk => trivial)⟩, ⟨by refine qK ?_; refine blk_far ?_ NB252_267.out _; refine qK ?_; refine blk_far ?_ NB252_267.out _; refine qK ?_; refine blk_far ?_ NB252_267.out _; refine qK ?_; exact BK252.out⟩, ⟨by refine qK ?_; refine blk_put (cs := #[.bool t262, .slice Ao20 t263.length co20, .string (⟨#[]⟩ : ByteArray)]) ?_ 2 _ rfl; refine qK ?_; refine blk_put (cs := #[.bool t262, .slice none 0 0, .string (⟨#[]⟩ : ByteArray)]) ?_ 1 _ rfl; refine qK ?_; refine blk_put (cs := #[.bool false, .slice none 0 0, .string (⟨#[]⟩ : ByteArray)]) ?_ 0 _ rfl; refine qK ?_; exact BK267.out⟩, ⟨by repeat (first | (with_reducible first | exact HI0.out | apply IsS157.alloc | apply IsS157.drewN | apply IsS157.drew | apply IsS157.set_1 | apply IsS157.set_2 | refine IsS157.far ?_ NB0_252.out _ | refine IsS157.far ?_ NB0_267.out _) | exact HI0.out)⟩, ⟨qh2 HK.out GW252.out GW267.out⟩, ⟨qb3 HB.out (IsS157.ge HI0.out) GE252.out GE267.out⟩⟩
  case round =>
   clear H'
   try clear c1
   try clear p2
   try clear c3
   try clear c9
   try clear c10
   try clear c14
   try clear c17
   try clear c18
   try clear hcz11_0
   try clear hcz11_1
   try clear hcz11_2
   try clear hcz19_0
   try clear hcz19_1
   try clear hcz19_2
   try clear hfz11_0
   try clear hfz11_1
   try clear hfz11_2
   try clear hfz19_0
   try clear hfz19_1
   try clear hfz19_2
   obtain ⟨x4_1, x1001_1, x1002_1, x268001_1, u268001, rfl, HA, HK1, HO_268001, BK252, BK267, HI0, HK, HB⟩ := hrel
   cases gk with
   | zero => exact absurd HA.out (by simp [spec_l04Block.l0])
   | succ k1 =>
    have H := HA.out
    clear HA
    simp only [spec_l04Block.l0] at H
    by_cases c21 : x4_1 < 4
    ·rw [if_pos c21] at H
     have c21b0 : decide (x4_1 < 4) = true := decide_eq_true c21
     clear c21
     replace H := Option.bind_eq_some_iff.mp H
     obtain ⟨⟨t268, t269, t270⟩, A220, H⟩ := H
     replace H : ((spec_l01Below.f s0_0 t269 t270 8).bind fun bt271 => ((spec_SlotOf.f k1 t262 x268001_1 t266 t268).bind fun t275 => (if t275 < 0 then ((spec_l01Once.f s0_0 bt271.2.1 bt271.2.2 2).bind fun bt276 => (if bt276.1 = true then (if 0 ≤ x4_1 then (if x4_1 < (x268001_1.length : Int) then (spec_l04Block.l0 k1 (wrap64 (x4_1 + 1)) s0_0 bt276.2.1 bt276.2.2 t262 (x268001_1.set (x4_1 : Int).toNat (⟨t268, wrap64 (1 + bt271.1)⟩ : S69)) t266) else (none)) else (none)) else (spec_l04Block.l0 k1 (wrap64 (x4_1 + 1)) s0_0 bt276.2.1 bt276.2.2 t262 x268001_1 t266))) else (spec_l04Block.l0 k1 (wrap64 (x4_1 + 1)) s0_0 bt271.2.1 bt271.2.2 t262 x268001_1 t266)))) = some (r1, r2, r3, r4, r5) := H
     have A22 := Aside0.mk A220
     clear A220
     replace H := Option.bind_eq_some_iff.mp H
     obtain ⟨⟨t271, t272, t273⟩, A230, H⟩ := H
     replace H : ((spec_SlotOf.f k1 t262 x268001_1 t266 t268).bind fun t275 => (if t275 < 0 then ((spec_l01Once.f s0_0 t272 t273 2).bind fun bt276 => (if bt276.1 = true then (if 0 ≤ x4_1 then (if x4_1 < (x268001_1.length : Int) then (spec_l04Block.l0 k1 (wrap64 (x4_1 + 1)) s0_0 bt276.2.1 bt276.2.2 t262 (x268001_1.set (x4_1 : Int).toNat (⟨t268, wrap64 (1 + t271)⟩ : S69)) t266) else (none)) else (none)) else (spec_l04Block.l0 k1 (wrap64 (x4_1 + 1)) s0_0 bt276.2.1 bt276.2.2 t262 x268001_1 t266))) else (spec_l04Block.l0 k1 (wrap64 (x4_1 + 1)) s0_0 t272 t273 t262 x268001_1 t266))) = some (r1, r2, r3, r4, r5) := H
     have A23 := Aside0.mk A230
     clear A230
     replace H := Option.bind_eq_some_iff.mp H
     obtain ⟨t275, A240, H⟩ := H
     replace H : (if t275 < 0 then ((spec_l01Once.f s0_0 t272 t273 2).bind fun bt276 => (if bt276.1 = true then (if 0 ≤ x4_1 then (if x4_1 < (x268001_1.length : Int) then (spec_l04Block.l0 k1 (wrap64 (x4_1 + 1)) s0_0 bt276.2.1 bt276.2.2 t262 (x268001_1.set (x4_1 : Int).toNat (⟨t268, wrap64 (1 + t271)⟩ : S69)) t266) else (none)) else (none)) else (spec_l04Block.l0 k1 (wrap64 (x4_1 + 1)) s0_0 bt276.2.1 bt276.2.2 t262 x268001_1 t266))) else (spec_l04Block.l0 k1 (wrap64 (x4_1 + 1)) s0_0 t272 t273 t262 x268001_1 t266)) = some (r1, r2, r3, r4, r5) := H
     have A24 := Aside0.mk A240
     clear A240
     by_cases c25 : t275 < 0
     ·rw [if_pos c25] at H
      have c25b0 : decide (t275 < 0) = true := decide_eq_true c25
      clear c25
      replace H := Option.bind_eq_some_iff.mp H
      obtain ⟨⟨t276, t277, t278⟩, A260, H⟩ := H
      replace H : (if t276 = true then (if 0 ≤ x4_1 then (if x4_1 < (x268001_1.length : Int) then (spec_l04Block.l0 k1 (wrap64 (x4_1 + 1)) s0_0 t277 t278 t262 (x268001_1.set (x4_1 : Int).toNat (⟨t268, wrap64 (1 + t271)⟩ : S69)) t266) else (none)) else (none)) else (spec_l04Block.l0 k1 (wrap64 (x4_1 + 1)) s0_0 t277 t278 t262 x268001_1 t266)) = some (r1, r2, r3, r4, r5) := H
      have A26 := Aside0.mk A260
      clear A260
      by_cases c27 : t276 = true
      ·subst c27
       have H1 : (if 0 ≤ x4_1 then (if x4_1 < (x268001_1.length : Int) then (spec_l04Block.l0 k1 (wrap64 (x4_1 + 1)) s0_0 t277 t278 t262 (x268001_1.set (x4_1 : Int).toNat (⟨t268, wrap64 (1 + t271)⟩ : S69)) t266) else (none)) else (none)) = some (r1, r2, r3, r4, r5) := by rw [if_pos rfl] at H; exact H
       clear H
       have H := H1
       clear H1
       by_cases c28 : 0 ≤ x4_1
       ·rw [if_pos c28] at H
        have c28b0 : decide (0 ≤ x4_1) = true := decide_eq_true c28
        clear c28
        by_cases c29 : x4_1 < (x268001_1.length : Int)
        ·rw [if_pos c29] at H
         have c29b0 : decide (x4_1 < (x268001_1.length : Int)) = true := decide_eq_true c29
         clear c29
         obtain ⟨y279, hy279⟩ : ∃ y_ : List (S69), y_ = (x268001_1.set (x4_1 : Int).toNat (⟨t268, wrap64 (1 + t271)⟩ : S69)) := ⟨_, rfl⟩
         replace H : (spec_l04Block.l0 k1 (wrap64 (x4_1 + 1)) s0_0 t277 t278 t262 y279 t266) = some (r1, r2, r3, r4, r5) := by first | (rw [hy279]; with_reducible exact H) | (have H2_ := (Option.bind_some _ _).symm.trans H; rw [hy279]; with_reducible exact H2_) | (have H2_ := (Option.bind_some _ _).symm.trans H; with_reducible exact H2_) | with_reducible exact H | (rw [hy279]; exact H) | exact H
         have Ny279 := Aside0.mk hy279
         clear hy279
         have H' := Aside0.mk H
         clear H
         go_wp2_with (first | ((with_reducible refine gate_callee (f := 100) rfl ?_); refine goesL_ (some 19) rfl rfl Try.func100 (by kernel_rfl) rfl #[.pointer (some ⟨g, 0, none⟩)] rfl qm ?_; (with_reducible refine (spec_l04Name.calls g s0_0 x1001_1 x1002_1 t268 t269 t270 w0 _ ?side1 ?side2 A22.out).mono ?_); (case side1 => repeat (first | (with_reducible first | exact HI0.out | apply IsS157.alloc | apply IsS157.drewN | apply IsS157.drew | apply IsS157.set_1 | apply IsS157.set_2 | refine IsS157.far ?_ NB0_252.out _ | refine IsS157.far ?_ NB0_267.out _) | exact HI0.out)); (case side2 => repeat (first | (with_reducible first | exact HB.out | apply below_alloc | apply pw_below_drewN | apply below_drew1 | refine below_set ?_ (IsS157.ge HI0.out) | refine below_set ?_ GE252.out | refine below_set ?_ GE267.out) | exact HB.out)); rintro e w31 ⟨rfl, hi, hb, hk⟩; refine ⟨_, rfl, ?_⟩; have n0_ := Aside0.mk (Kd.R_mono (Kd.R_keep (IsS157.apart (show IsS157 w0 _ g s0_0 x1001_1 x1002_1 from by repeat (first | (with_reducible first | exact HI0.out | apply IsS157.alloc | apply IsS157.drewN | apply IsS157.drew | apply IsS157.set_1 | apply IsS157.set_2 | refine IsS157.far ?_ NB0_252.out _ | refine IsS157.far ?_ NB0_267.out _) | exact HI0.out)) (qr HO_268001.out) (by decide)) hk (fun _ h => h.2)) (fun _ h => h.1)); have n1_ := Aside0.mk (KeepBut.blk hk (g' := gb252) (o := .cells #[.bool false, .slice none 0 0, .string (⟨#[]⟩ : ByteArray)] 59 (0, 0)) (qk BK252.out) NB252_0.out (by simp)); have n2_ := Aside0.mk (KeepBut.blk hk (g' := gb267) (o := .cells #[.bool t262, u268001, .string t266] 59 (0, 0)) (qk BK267.out) NB267_0.out (by simp)); have n3_ := Aside0.mk (KeepBut.trans (qh2 HK.out GW252.out GW267.out) hk (.inl rfl)); have n4_ := Aside0.mk (hb); have n5_ := Aside0.mk (hi); clear HO_268001; clear BK252; clear BK267; clear HK; clear HB; clear HI0; have HO_268001 := n0_; have BK252 := n1_; have BK267 := n2_; have HK := n3_; have HB := n4_; have HI0 := n5_; clear n0_ n1_ n2_ n3_ n4_ n5_; (try clear hb); (try clear hb2); (try clear hk); (try clear hi)) | ((with_reducible refine gate_callee (f := 145) rfl ?_); refine goesL_ (some 21) rfl rfl Try.func145 (by kernel_rfl) rfl #[.pointer (some ⟨g, 0, none⟩), .int .i64 8] rfl qm ?_; (with_reducible refine (spec_l01Below.calls g s0_0 t269 t270 8 t271 t272 t273 w0 _ ?side1 ?side2 A23.out).mono ?_); (case side1 => repeat (first | (with_reducible first | exact HI0.out | apply IsS157.alloc | apply IsS157.drewN | apply IsS157.drew | apply IsS157.set_1 | apply IsS157.set_2 | refine IsS157.far ?_ NB0_252.out _ | refine IsS157.far ?_ NB0_267.out _) | exact HI0.out)); (case side2 => repeat (first | (with_reducible first | exact HB.out | apply below_alloc | apply pw_below_drewN | apply below_drew1 | refine below_set ?_ (IsS157.ge HI0.out) | refine below_set ?_ GE252.out | refine below_set ?_ GE267.out) | exact HB.out)); rintro e w32 ⟨rfl, hi, hb, hk⟩; refine ⟨_, rfl, ?_⟩; have n0_ := Aside0.mk (Kd.R_mono (Kd.R_keep (IsS157.apart (show IsS157 w0 _ g s0_0 t269 t270 from by repeat (first | (with_reducible first | exact HI0.out | apply IsS157.alloc | apply IsS157.drewN | apply IsS157.drew | apply IsS157.set_1 | apply IsS157.set_2 | refine IsS157.far ?_ NB0_252.out _ | refine IsS157.far ?_ NB0_267.out _) | exact HI0.out)) (qr HO_268001.out) (by decide)) hk (fun _ h => h.2)) (fun _ h => h.1)); have n1_ := Aside0.mk (KeepBut.blk hk (g' := gb252) (o := .cells #[.bool false, .slice none 0 0, .string (⟨#[]⟩ : ByteArray)] 59 (0, 0)) (qk BK252.out) NB252_0.out (by simp)); have n2_ := Aside0.mk (KeepBut.blk hk (g' := gb267) (o := .cells #[.bool t262, u268001, .string t266] 59 (0, 0)) (qk BK267.out) NB267_0.out (by simp)); have n3_ := Aside0.mk (KeepBut.trans (qh2 HK.out GW252.out GW267.out) hk (.inl rfl)); have n4_ := Aside0.mk (hb); have n5_ := Aside0.mk (hi); clear HO_268001; clear BK252; clear BK267; clear HK; clear HB; clear HI0; have HO_268001 := n0_; have BK252 := n1_; have BK267 := n2_; have HK := n3_; have HB := n4_; have HI0 := n5_; clear n0_ n1_ n2_ n3_ n4_ n5_; (try clear hb); (try clear hb2); (try clear hk); (try clear hi)) | ((with_reducible refine gate_dst (N := 5) rfl ?_); refine box_event ?hg (N := 5) ?hd (cs := #[.string (⟨#[]⟩ : ByteArray), .int .i64 0]) (t := 69) ?hr ?_; (case hd => rfl); (case hg => rfl); (case hr => first | (go_simp; done) | (go_simp; rfl)); intro gb274 hg w33 hbox hb; have n0_ := Aside0.mk (Kd.R_below (Kd.R_elderB (qr HO_268001.out) gb274 (Nat.le_of_eq hg.symm)) hb); have n1_ := Aside0.mk (blk_below (g := gb252) (o := .cells #[.bool false, .slice none 0 0, .string (⟨#[]⟩ : ByteArray)] 59 (0, 0)) (qk BK252.out) hb); have n2_ := Aside0.mk (blk_below (g := gb267) (o := .cells #[.bool t262, u268001, .string t266] 59 (0, 0)) (qk BK267.out) hb); have n3_ := Aside0.mk (IsS157.below (by repeat (first | (with_reducible first | exact HI0.out | apply IsS157.alloc | apply IsS157.drewN | apply IsS157.drew | apply IsS157.set_1 | apply IsS157.set_2 | refine IsS157.far ?_ NB0_252.out _ | refine IsS157.far ?_ NB0_267.out _) | exact HI0.out)) hb); have n4_ := Aside0.mk (KeepBut.trans (qh2 HK.out GW252.out GW267.out) (KeepBut.of_below hb g none) (.inl rfl)); have n5_ := Aside0.mk (below_step (qb3 HB.out (IsS157.ge HI0.out) GE252.out GE267.out) hb); have n6_ := Aside0.mk (hbox); have n7_ := Aside0.mk ((by rw [hg]; exact (keep_size (w := w) (g := g) (row := none) (qh2 HK.out GW252.out GW267.out)) : w.heap.size ≤ gb274)); have n8_ := Aside0.mk ((Nat.le_trans HW0.out (by rw [hg]; exact (keep_size (w := w) (g := g) (row := none) (qh2 HK.out GW252.out GW267.out)) : w.heap.size ≤ gb274) : w0.heap.size ≤ gb274)); have n9_ := Aside0.mk ((by rw [hg]; exact Nat.ne_of_lt (blk_lt (g := gb252) (o := .cells #[.bool false, .slice none 0 0, .string (⟨#[]⟩ : ByteArray)] 59 (0, 0)) (qk BK252.out)) : gb252 ≠ gb274)); have n10_ := Aside0.mk ((by rw [hg]; exact Nat.ne_of_gt (blk_lt (g := gb252) (o := .cells #[.bool false, .slice none 0 0, .string (⟨#[]⟩ : ByteArray)] 59 (0, 0)) (qk BK252.out)) : gb274 ≠ gb252)); have n11_ := Aside0.mk ((by rw [hg]; exact Nat.ne_of_lt (blk_lt (g := gb267) (o := .cells #[.bool t262, u268001, .string t266] 59 (0, 0)) (qk BK267.out)) : gb267 ≠ gb274)); have n12_ := Aside0.mk ((by rw [hg]; exact Nat.ne_of_gt (blk_lt (g := gb267) (o := .cells #[.bool t262, u268001, .string t266] 59 (0, 0)) (qk BK267.out)) : gb274 ≠ gb267)); have n13_ := Aside0.mk ((by rw [hg]; exact Nat.ne_of_lt (IsS157.lt (show IsS157 w0 _ g s0_0 t272 t273 from by repeat (first | (with_reducible first | exact HI0.out | apply IsS157.alloc | apply IsS157.drewN | apply IsS157.drew | apply IsS157.set_1 | apply IsS157.set_2 | refine IsS157.far ?_ NB0_252.out _ | refine IsS157.far ?_ NB0_267.out _) | exact HI0.out))) : g ≠ gb274)); have n14_ := Aside0.mk ((by rw [hg]; exact Nat.ne_of_gt (IsS157.lt (show IsS157 w0 _ g s0_0 t272 t273 from by repeat (first | (with_reducible first | exact HI0.out | apply IsS157.alloc | apply IsS157.drewN | apply IsS157.drew | apply IsS157.set_1 | apply IsS157.set_2 | refine IsS157.far ?_ NB0_252.out _ | refine IsS157.far ?_ NB0_267.out _) | exact HI0.out))) : gb274 ≠ g)); clear HO_268001; clear BK252; clear BK267; clear HI0; clear HK; clear HB; have HO_268001 := n0_; have BK252 := n1_; have BK267 := n2_; have HI0 := n3_; have HK := n4_; have HB := n5_; have BK274 := n6_; have GW274 := n7_; have GE274 := n8_; have NB252_274 := n9_; have NB274_252 := n10_; have NB267_274 := n11_; have NB274_267 := n12_; have NB0_274 := n13_; have NB274_0 := n14_; clear n0_ n1_ n2_ n3_ n4_ n5_ n6_ n7_ n8_ n9_ n10_ n11_ n12_ n13_ n14_; clear hb hbox hg; have hnb34 := NB274_252.out; have hnc34 := NB252_274.out; have hnb35 := NB274_267.out; have hnc35 := NB267_274.out; have hnb36 := NB274_0.out; have hnc36 := NB0_274.out; have hcz37_0 : w33.cell? ⟨gb274, 0, none⟩ = some (.string (⟨#[]⟩ : ByteArray)) := (blk_cell BK274.out 0).trans rfl; have hcz37_1 : w33.cell? ⟨gb274, 1, none⟩ = some (.int .i64 0) := (blk_cell BK274.out 1).trans rfl; have hfz37_0 := blk_frozen BK274.out 0; have hfz37_1 := blk_frozen BK274.out 1; have hnb38 := NB267_252.out; have hnc38 := NB252_267.out; have hnb39 := NB267_0.out; have hnc39 := NB0_267.out; have hcz40_0 : w33.cell? ⟨gb267, 0, none⟩ = some (.bool t262) := (blk_cell BK267.out 0).trans rfl; have hcz40_1 : w33.cell? ⟨gb267, 1, none⟩ = some (u268001) := (blk_cell BK267.out 1).trans rfl; have hcz40_2 : w33.cell? ⟨gb267, 2, none⟩ = some (.string t266) := (blk_cell BK267.out 2).trans rfl; have hfz40_0 := blk_frozen BK267.out 0; have hfz40_1 := blk_frozen BK267.out 1; have hfz40_2 := blk_frozen BK267.out 2; obtain ⟨Ao41, co41, eo41⟩ := Kd.R_slice HO_268001.out; subst eo41) | ((with_reducible refine gate_callee (f := 29) rfl ?_); refine goesL_ (some 27) rfl rfl Try.func29 (by kernel_rfl) rfl #[.agg #[.bool t262, .slice Ao41 x268001_1.length co41, .string t266], .string t268] rfl qm ?_; (with_reducible refine (spec_SlotOf.calls k1 t262 _ _ x268001_1 t266 t268 t275 _ ?side1 ?side2 A24.out).mono ?_); (case side1 => refine (Kd.R_reads' (e := 69) (base := w.heap.size) (ok := fun k_ => (True ∧ k_ ≠ gb274)) (n := x268001_1.length) (c := co41) ?_).2.2; exact (by refine qR ?_; exact (Kd.R_mono (Kd.R_far (p := ⟨gb274, 1, none⟩) (Kd.R_far (p := ⟨gb274, 0, none⟩) (Kd.R_mono HO_268001.out (fun k_ hk => (⟨hk, hk.2⟩ : _ ∧ k_ ≠ gb274))) (fun _ hk => hk.2) (.string t268)) (fun _ hk => hk.2) (.int .i64 (wrap64 (1 + t271)))) (fun _ h_ => h_.1)))); (case side2 => exact (Kd.R_reads' HO_268001.out).2.1); rintro e w42 ⟨rfl, hb⟩; refine ⟨_, rfl, ?_⟩; have n0_ := Aside0.mk (Kd.R_below (by refine qR ?_; exact (Kd.R_mono (Kd.R_far (p := ⟨gb274, 1, none⟩) (Kd.R_far (p := ⟨gb274, 0, none⟩) (Kd.R_mono HO_268001.out (fun k_ hk => (⟨hk, hk.2⟩ : _ ∧ k_ ≠ gb274))) (fun _ hk => hk.2) (.string t268)) (fun _ hk => hk.2) (.int .i64 (wrap64 (1 + t271)))) (fun _ h_ => h_.1))) hb); have n1_ := Aside0.mk (blk_below (g := gb252) (o := .cells #[.bool false, .slice none 0 0, .string (⟨#[]⟩ : ByteArray)] 59 (0, 0)) (by refine qK ?_; refine blk_far ?_ NB252_274.out _; refine qK ?_; refine blk_far ?_ NB252_274.out _; refine qK ?_; exact BK252.out) hb); have n2_ := Aside0.mk (blk_below (g := gb267) (o := .cells #[.bool t262, .slice Ao41 x268001_1.length co41, .string t266] 59 (0, 0)) (by refine qK ?_; refine blk_far ?_ NB267_274.out _; refine qK ?_; refine blk_far ?_ NB267_274.out _; refine qK ?_; exact BK267.out) hb); have n3_ := Aside0.mk (IsS157.below (show IsS157 w0 ((w33.setCell ⟨gb274, 0, none⟩ (.string t268)).setCell ⟨gb274, 1, none⟩ (.int .i64 (wrap64 (1 + t271)))) g s0_0 t272 t273 from by repeat (first | (with_reducible first | exact HI0.out | apply IsS157.alloc | apply IsS157.drewN | apply IsS157.drew | apply IsS157.set_1 | apply IsS157.set_2 | refine IsS157.far ?_ NB0_252.out _ | refine IsS157.far ?_ NB0_267.out _ | refine IsS157.far ?_ NB0_274.out _) | exact HI0.out)) hb); have n4_ := Aside0.mk (blk_below (g := gb274) (o := .cells #[.string t268, .int .i64 (wrap64 (1 + t271))] 69 (0, 0)) (by refine qK ?_; refine blk_put (cs := #[.string t268, .int .i64 0]) ?_ 1 _ rfl; refine qK ?_; refine blk_put (cs := #[.string (⟨#[]⟩ : ByteArray), .int .i64 0]) ?_ 0 _ rfl; refine qK ?_; exact BK274.out) hb); have n5_ := Aside0.mk (KeepBut.trans (qh3 HK.out GW252.out GW267.out GW274.out) (KeepBut.of_below hb g none) (.inl rfl)); have n6_ := Aside0.mk (below_step (qb4 HB.out (IsS157.ge HI0.out) GE252.out GE267.out GE274.out) hb); clear HO_268001; clear BK252; clear BK267; clear HI0; clear BK274; clear HK; clear HB; have HO_268001 := n0_; have BK252 := n1_; have BK267 := n2_; have HI0 := n3_; have BK274 := n4_; have HK := n5_; have HB := n6_; clear n0_ n1_ n2_ n3_ n4_ n5_ n6_; (try clear hb); (try clear hb2); (try clear hk); (try clear hi)) | (go_at_call 99; (with_reducible refine (spec_l01Once.calls g s0_0 t272 t273 2 true t277 t278 w0 _ ?side1 ?side2 A26.out).mono ?_); (case side1 => repeat (first | (with_reducible first | exact HI0.out | apply IsS157.alloc | apply IsS157.drewN | apply IsS157.drew | apply IsS157.set_1 | apply IsS157.set_2 | refine IsS157.far ?_ NB0_252.out _ | refine IsS157.far ?_ NB0_267.out _ | refine IsS157.far ?_ NB0_274.out _) | exact HI0.out)); (case side2 => repeat (first | (with_reducible first | exact HB.out | apply below_alloc | apply pw_below_drewN | apply below_drew1 | refine below_set ?_ (IsS157.ge HI0.out) | refine below_set ?_ GE252.out | refine below_set ?_ GE267.out | refine below_set ?_ GE274.out) | exact HB.out)); rintro e w43 ⟨rfl, hi, hb, hk⟩; have n0_ := Aside0.mk (Kd.R_mono (Kd.R_keep (IsS157.apart (show IsS157 w0 _ g s0_0 t272 t273 from by repeat (first | (with_reducible first | exact HI0.out | apply IsS157.alloc | apply IsS157.drewN | apply IsS157.drew | apply IsS157.set_1 | apply IsS157.set_2 | refine IsS157.far ?_ NB0_252.out _ | refine IsS157.far ?_ NB0_267.out _ | refine IsS157.far ?_ NB0_274.out _) | exact HI0.out)) (qr HO_268001.out) (by decide)) hk (fun _ h => h.2)) (fun _ h => h.1)); have n1_ := Aside0.mk (KeepBut.blk hk (g' := gb252) (o := .cells #[.bool false, .slice none 0 0, .string (⟨#[]⟩ : ByteArray)] 59 (0, 0)) (qk BK252.out) NB252_0.out (by simp)); have n2_ := Aside0.mk (KeepBut.blk hk (g' := gb267) (o := .cells #[.bool t262, .slice Ao41 x268001_1.length co41, .string t266] 59 (0, 0)) (qk BK267.out) NB267_0.out (by simp)); have n3_ := Aside0.mk (KeepBut.blk hk (g' := gb274) (o := .cells #[.string t268, .int .i64 (wrap64 (1 + t271))] 69 (0, 0)) (qk BK274.out) NB274_0.out (by simp)); have n4_ := Aside0.mk (KeepBut.trans (qh3 HK.out GW252.out GW267.out GW274.out) hk (.inl rfl)); have n5_ := Aside0.mk (hb); have n6_ := Aside0.mk (hi); clear HO_268001; clear BK252; clear BK267; clear BK274; clear HK; clear HB; clear HI0; have HO_268001 := n0_; have BK252 := n1_; have BK267 := n2_; have BK274 := n3_; have HK := n4_; have HB := n5_; have HI0 := n6_; clear n0_ n1_ n2_ n3_ n4_ n5_ n6_; (try clear hb); (try clear hb2); (try clear hk); (try clear hi); have hcz44_0 : w43.cell? ⟨gb267, 0, none⟩ = some (.bool t262) := (blk_cell BK267.out 0).trans rfl; have hcz44_1 : w43.cell? ⟨gb267, 1, none⟩ = some (.slice Ao41 x268001_1.length co41) := (blk_cell BK267.out 1).trans rfl; have hcz44_2 : w43.cell? ⟨gb267, 2, none⟩ = some (.string t266) := (blk_cell BK267.out 2).trans rfl; have hfz44_0 := blk_frozen BK267.out 0; have hfz44_1 := blk_frozen BK267.out 1; have hfz44_2 := blk_frozen BK267.out 2; have hcz45_0 : w43.cell? ⟨gb274, 0, none⟩ = some (.string t268) := (blk_cell BK274.out 0).trans rfl; have hcz45_1 : w43.cell? ⟨gb274, 1, none⟩ = some (.int .i64 (wrap64 (1 + t271))) := (blk_cell BK274.out 1).trans rfl; have hfz45_0 := blk_frozen BK274.out 0; have hfz45_1 := blk_frozen BK274.out 1; have p30 : 0 ≤ (x4_1 : Int) := qo; have q30 : (x4_1 : Int) < ((x268001_1.length : Int) : Int) := qo; obtain ⟨go30, co30, eo30, gb30, gl30, cl30, HG30⟩ := Kd.R_form HO_268001.out (by omega); (first | cases eo30 | (injection eo30 with ea_ en_ ec_; (first | subst ea_ | (injection ea_ with ea_; subst ea_)); subst ec_; clear en_)); have GB30 := Aside0.mk gb30; have GG30 := Aside0.mk HG30; clear gb30 gl30 HG30; obtain ⟨ce30, hcl30, hM30, hcc30, hfr30⟩ := Kd.R_elem HO_268001.out z69 (x4_1 : Int) p30 q30; obtain rfl := k69_openM hM30; have hx30_0 : w43.cell? ⟨go30, (x4_1 : Int).toNat * 2, none⟩ = some (.string ((rd_T69 x268001_1 x4_1).f0)) := hcc30 0 _ rfl; have hx30_1 : w43.cell? ⟨go30, (x4_1 : Int).toNat * 2 + 1, none⟩ = some (.int .i64 ((rd_T69 x268001_1 x4_1).f1)) := hcc30 1 _ rfl; have hf30_0 : w43.frozen? ⟨go30, (x4_1 : Int).toNat * 2, none⟩ = false := hfr30 0; have hf30_1 : w43.frozen? ⟨go30, (x4_1 : Int).toNat * 2 + 1, none⟩ = false := hfr30 1; clear hcl30 hcc30 hfr30 hM30; replace p30 := eq_true p30; replace q30 := eq_true q30; have n_ := Aside0.mk (Kd.R_mono (ok' := (fun k_ => k_ ≠ gb274)) HO_268001.out (fun k_ hk => hk.2)); clear HO_268001; have HO_268001 := n_; clear n_; have HX46 := Aside0.mk (show Kd.R k69 69 w43 w.heap.size (fun k_ => k_ ≠ gb274) (.slice (some ⟨go30, 0, none⟩) x268001_1.length co41) x268001_1 from (qr HO_268001.out)); obtain ⟨ce46, hcl46, hM46, hcc46, hfr46⟩ := Kd.R_elem HX46.out z69 (x4_1 : Int) qo (by have h_ : (x4_1 : Int) < ((x268001_1.length : Int) : Int) := qo; first | exact h_ | (have e_ := (Kd.R_reads' HO_268001.out).1; omega) | simpa using h_); obtain rfl := k69_openM hM46; have HP46 := Kd.R_seg HX46.out (x4_1 : Int) qo (by have h_ : (x4_1 : Int) < ((x268001_1.length : Int) : Int) := qo; first | exact h_ | (have e_ := (Kd.R_reads' HO_268001.out).1; omega) | simpa using h_) (seg := [.string t268, .int .i64 (wrap64 (1 + t271))]) (j := 0) hcl46 hcc46 (show 2 ≤ 2 from by decide) (x' := (⟨t268, wrap64 (1 + t271)⟩ : S69)) (k69_mkM _ _ _ (⟨t268, wrap64 (1 + t271)⟩ : S69) ) (fun _ hk => hk); have hx46_0 := hcc46 0 _ rfl; (try simp only [show (k69).sz = 2 from rfl, Nat.mul_one, Nat.add_zero] at hx46_0); have hf46_0 := hfr46 0; (try simp only [show (k69).sz = 2 from rfl, Nat.mul_one, Nat.add_zero] at hf46_0); have hx46_1 := hcc46 1 _ rfl; (try simp only [show (k69).sz = 2 from rfl, Nat.mul_one, Nat.add_zero] at hx46_1); have hf46_1 := hfr46 1; (try simp only [show (k69).sz = 2 from rfl, Nat.mul_one, Nat.add_zero] at hf46_1); clear hcl46 hcc46 hfr46 hM46) | ((with_reducible refine gate_store (t := 69) (p := 37) rfl ?_); refine store_event (t := 69) (p := 37) (v := ?vo_w47) (w1 := ((w43.setCell ⟨go30, (x4_1 : Int).toNat * 2, none⟩ (.string t268)).setCell ⟨go30, (x4_1 : Int).toNat * 2 + 1, none⟩ (.int .i64 (wrap64 (1 + t271))))) ?hg ?ho ?hn ?hr ?_; (case ho => rfl); (case hg => rfl); (case hn => rfl); (case hr => first | (go_simp; done) | (go_simp; rfl)); intro w47 hw; have hg : w43.grownBy w47 (some go30) := (by rw [hw]; exact HP46.2); have hp_ : Kd.R k69 69 w47 w.heap.size (fun k_ => k_ ≠ gb274) (.slice (some ⟨go30, 0, none⟩) x268001_1.length co41) y279 := (by rw [hw, Ny279.out]; exact HP46.1); clear HP46; have n0_ := Aside0.mk (hp_); have n1_ := Aside0.mk (blk_grown (g := gb252) (o := .cells #[.bool false, .slice none 0 0, .string (⟨#[]⟩ : ByteArray)] 59 (0, 0)) (qk BK252.out) hg (Kd.R_ne HO_268001.out BK252.out (by decide))); have n2_ := Aside0.mk (blk_grown (g := gb267) (o := .cells #[.bool t262, .slice (some ⟨go30, 0, none⟩) x268001_1.length co41, .string t266] 59 (0, 0)) (qk BK267.out) hg (Kd.R_ne HO_268001.out BK267.out (by decide))); have n3_ := Aside0.mk (IsS157.grown (by repeat (first | (with_reducible first | exact HI0.out | apply IsS157.alloc | apply IsS157.drewN | apply IsS157.drew | apply IsS157.set_1 | apply IsS157.set_2 | refine IsS157.far ?_ NB0_252.out _ | refine IsS157.far ?_ NB0_267.out _ | refine IsS157.far ?_ NB0_274.out _) | exact HI0.out)) hg (IsS157.own_ne HI0.out HO_268001.out (by decide))); have n4_ := Aside0.mk (blk_grown (g := gb274) (o := .cells #[.string t268, .int .i64 (wrap64 (1 + t271))] 69 (0, 0)) (qk BK274.out) hg (Kd.R_away HO_268001.out (fun _ hk => hk))); have n5_ := Aside0.mk ((by rw [hw]; exact below_set (below_set (HB.out) (Nat.le_trans HL.out GB30.out)) (Nat.le_trans HL.out GB30.out) : Below w0.heap.size w0 w47)); have n6_ := Aside0.mk (KeepBut.trans (qh3 HK.out GW252.out GW267.out GW274.out) (KeepBut.of_grown hg g) (Kd.R_base2 HO_268001.out)); clear HO_268001; clear BK252; clear BK267; clear HI0; clear BK274; clear HB; clear HK; have HO_268001 := n0_; have BK252 := n1_; have BK267 := n2_; have HI0 := n3_; have BK274 := n4_; have HB := n5_; have HK := n6_; clear n0_ n1_ n2_ n3_ n4_ n5_ n6_; clear hg hw hp_))
         go_roundg k1
         case measure => have := HK1.out; omega
         case rel => exact ⟨(wrap64 (x4_1 + 1)), (t277), (t278), (y279), (.slice (some ⟨go30, 0, none⟩) x268001_1.length co41), qz, H', ⟨by have := HK1.out; omega⟩, ⟨by refine qR ?_; exact Kd.R_mono HO_268001.out (fun _ hk => trivial)⟩, ⟨qk BK252.out⟩, ⟨qk BK267.out⟩, ⟨by repeat (first | (with_reducible first | exact HI0.out | apply IsS157.alloc | apply IsS157.drewN | apply IsS157.drew | apply IsS157.set_1 | apply IsS157.set_2 | refine IsS157.far ?_ NB0_252.out _ | refine IsS157.far ?_ NB0_267.out _ | refine IsS157.far ?_ NB0_274.out _) | exact HI0.out)⟩, ⟨qh3 HK.out GW252.out GW267.out GW274.out⟩, ⟨qb4 HB.out (IsS157.ge HI0.out) GE252.out GE267.out GE274.out⟩⟩
        ·rw [if_neg c29] at H
         exact absurd H (by simp)
       ·rw [if_neg c28] at H
        exact absurd H (by simp)
      ·replace c27 := Bool.eq_false_iff.mpr c27
       subst c27
       have H1 : (spec_l04Block.l0 k1 (wrap64 (x4_1 + 1)) s0_0 t277 t278 t262 x268001_1 t266) = some (r1, r2, r3, r4, r5) := by rw [if_neg (show ¬ (false = true) by decide)] at H; exact H
       clear H
       have H := H1
       clear H1
       have H' := Aside0.mk H
       clear H
       go_wp2_with (first | ((with_reducible refine gate_callee (f := 100) rfl ?_); refine goesL_ (some 19) rfl rfl Try.func100 (by kernel_rfl) rfl #[.pointer (some ⟨g, 0, none⟩)] rfl qm ?_; (with_reducible refine (spec_l04Name.calls g s0_0 x1001_1 x1002_1 t268 t269 t270 w0 _ ?side1 ?side2 A22.out).mono ?_); (case side1 => repeat (first | (with_reducible first | exact HI0.out | apply IsS157.alloc | apply IsS157.drewN | apply IsS157.drew | apply IsS157.set_1 | apply IsS157.set_2 | refine IsS157.far ?_ NB0_252.out _ | refine IsS157.far ?_ NB0_267.out _) | exact HI0.out)); (case side2 => repeat (first | (with_reducible first | exact HB.out | apply below_alloc | apply pw_below_drewN | apply below_drew1 | refine below_set ?_ (IsS157.ge HI0.out) | refine below_set ?_ GE252.out | refine below_set ?_ GE267.out) | exact HB.out)); rintro e w48 ⟨rfl, hi, hb, hk⟩; refine ⟨_, rfl, ?_⟩; have n0_ := Aside0.mk (Kd.R_mono (Kd.R_keep (IsS157.apart (show IsS157 w0 _ g s0_0 x1001_1 x1002_1 from by repeat (first | (with_reducible first | exact HI0.out | apply IsS157.alloc | apply IsS157.drewN | apply IsS157.drew | apply IsS157.set_1 | apply IsS157.set_2 | refine IsS157.far ?_ NB0_252.out _ | refine IsS157.far ?_ NB0_267.out _) | exact HI0.out)) (qr HO_268001.out) (by decide)) hk (fun _ h => h.2)) (fun _ h => h.1)); have n1_ := Aside0.mk (KeepBut.blk hk (g' := gb252) (o := .cells #[.bool false, .slice none 0 0, .string (⟨#[]⟩ : ByteArray)] 59 (0, 0)) (qk BK252.out) NB252_0.out (by simp)); have n2_ := Aside0.mk (KeepBut.blk hk (g' := gb267) (o := .cells #[.bool t262, u268001, .string t266] 59 (0, 0)) (qk BK267.out) NB267_0.out (by simp)); have n3_ := Aside0.mk (KeepBut.trans (qh2 HK.out GW252.out GW267.out) hk (.inl rfl)); have n4_ := Aside0.mk (hb); have n5_ := Aside0.mk (hi); clear HO_268001; clear BK252; clear BK267; clear HK; clear HB; clear HI0; have HO_268001 := n0_; have BK252 := n1_; have BK267 := n2_; have HK := n3_; have HB := n4_; have HI0 := n5_; clear n0_ n1_ n2_ n3_ n4_ n5_; (try clear hb); (try clear hb2); (try clear hk); (try clear hi)) | ((with_reducible refine gate_callee (f := 145) rfl ?_); refine goesL_ (some 21) rfl rfl Try.func145 (by kernel_rfl) rfl #[.pointer (some ⟨g, 0, none⟩), .int .i64 8] rfl qm ?_; (with_reducible refine (spec_l01Below.calls g s0_0 t269 t270 8 t271 t272 t273 w0 _ ?side1 ?side2 A23.out).mono ?_); (case side1 => repeat (first | (with_reducible first | exact HI0.out | apply IsS157.alloc | apply IsS157.drewN | apply IsS157.drew | apply IsS157.set_1 | apply IsS157.set_2 | refine IsS157.far ?_ NB0_252.out _ | refine IsS157.far ?_ NB0_267.out _) | exact HI0.out)); (case side2 => repeat (first | (with_reducible first | exact HB.out | apply below_alloc | apply pw_below_drewN | apply below_drew1 | refine below_set ?_ (IsS157.ge HI0.out) | refine below_set ?_ GE252.out | refine below_set ?_ GE267.out) | exact HB.out)); rintro e w49 ⟨rfl, hi, hb, hk⟩; refine ⟨_, rfl, ?_⟩; have n0_ := Aside0.mk (Kd.R_mono (Kd.R_keep (IsS157.apart (show IsS157 w0 _ g s0_0 t269 t270 from by repeat (first | (with_reducible first | exact HI0.out | apply IsS157.alloc | apply IsS157.drewN | apply IsS157.drew | apply IsS157.set_1 | apply IsS157.set_2 | refine IsS157.far ?_ NB0_252.out _ | refine IsS157.far ?_ NB0_267.out _) | exact HI0.out)) (qr HO_268001.out) (by decide)) hk (fun _ h => h.2)) (fun _ h => h.1)); have n1_ := Aside0.mk (KeepBut.blk hk (g' := gb252) (o := .cells #[.bool false, .slice none 0 0, .string (⟨#[]⟩ : ByteArray)] 59 (0, 0)) (qk BK252.out) NB252_0.out (by simp)); have n2_ := Aside0.mk (KeepBut.blk hk (g' := gb267) (o := .cells #[.bool t262, u268001, .string t266] 59 (0, 0)) (qk BK267.out) NB267_0.out (by simp)); have n3_ := Aside0.mk (KeepBut.trans (qh2 HK.out GW252.out GW267.out) hk (.inl rfl)); have n4_ := Aside0.mk (hb); have n5_ := Aside0.mk (hi); clear HO_268001; clear BK252; clear BK267; clear HK; clear HB; clear HI0; have HO_268001 := n0_; have BK252 := n1_; have BK267 := n2_; have HK := n3_; have HB := n4_; have HI0 := n5_; clear n0_ n1_ n2_ n3_ n4_ n5_; (try clear hb); (try clear hb2); (try clear hk); (try clear hi)) | ((with_reducible refine gate_dst (N := 5) rfl ?_); refine box_event ?hg (N := 5) ?hd (cs := #[.string (⟨#[]⟩ : ByteArray), .int .i64 0]) (t := 69) ?hr ?_; (case hd => rfl); (case hg => rfl); (case hr => first | (go_simp; done) | (go_simp; rfl)); intro gb274 hg w50 hbox hb; have n0_ := Aside0.mk (Kd.R_below (Kd.R_elderB (qr HO_268001.out) gb274 (Nat.le_of_eq hg.symm)) hb); have n1_ := Aside0.mk (blk_below (g := gb252) (o := .cells #[.bool false, .slice none 0 0, .string (⟨#[]⟩ : ByteArray)] 59 (0, 0)) (qk BK252.out) hb); have n2_ := Aside0.mk (blk_below (g := gb267) (o := .cells #[.bool t262, u268001, .string t266] 59 (0, 0)) (qk BK267.out) hb); have n3_ := Aside0.mk (IsS157.below (by repeat (first | (with_reducible first | exact HI0.out | apply IsS157.alloc | apply IsS157.drewN | apply IsS157.drew | apply IsS157.set_1 | apply IsS157.set_2 | refine IsS157.far ?_ NB0_252.out _ | refine IsS157.far ?_ NB0_267.out _) | exact HI0.out)) hb); have n4_ := Aside0.mk (KeepBut.trans (qh2 HK.out GW252.out GW267.out) (KeepBut.of_below hb g none) (.inl rfl)); have n5_ := Aside0.mk (below_step (qb3 HB.out (IsS157.ge HI0.out) GE252.out GE267.out) hb); have n6_ := Aside0.mk (hbox); have n7_ := Aside0.mk ((by rw [hg]; exact (keep_size (w := w) (g := g) (row := none) (qh2 HK.out GW252.out GW267.out)) : w.heap.size ≤ gb274)); have n8_ := Aside0.mk ((Nat.le_trans HW0.out (by rw [hg]; exact (keep_size (w := w) (g := g) (row := none) (qh2 HK.out GW252.out GW267.out)) : w.heap.size ≤ gb274) : w0.heap.size ≤ gb274)); have n9_ := Aside0.mk ((by rw [hg]; exact Nat.ne_of_lt (blk_lt (g := gb252) (o := .cells #[.bool false, .slice none 0 0, .string (⟨#[]⟩ : ByteArray)] 59 (0, 0)) (qk BK252.out)) : gb252 ≠ gb274)); have n10_ := Aside0.mk ((by rw [hg]; exact Nat.ne_of_gt (blk_lt (g := gb252) (o := .cells #[.bool false, .slice none 0 0, .string (⟨#[]⟩ : ByteArray)] 59 (0, 0)) (qk BK252.out)) : gb274 ≠ gb252)); have n11_ := Aside0.mk ((by rw [hg]; exact Nat.ne_of_lt (blk_lt (g := gb267) (o := .cells #[.bool t262, u268001, .string t266] 59 (0, 0)) (qk BK267.out)) : gb267 ≠ gb274)); have n12_ := Aside0.mk ((by rw [hg]; exact Nat.ne_of_gt (blk_lt (g := gb267) (o := .cells #[.bool t262, u268001, .string t266] 59 (0, 0)) (qk BK267.out)) : gb274 ≠ gb267)); have n13_ := Aside0.mk ((by rw [hg]; exact Nat.ne_of_lt (IsS157.lt (show IsS157 w0 _ g s0_0 t272 t273 from by repeat (first | (with_reducible first | exact HI0.out | apply IsS157.alloc | apply IsS157.drewN | apply IsS157.drew | apply IsS157.set_1 | apply IsS157.set_2 | refine IsS157.far ?_ NB0_252.out _ | refine IsS157.far ?_ NB0_267.out _) | exact HI0.out))) : g ≠ gb274)); have n14_ := Aside0.mk ((by rw [hg]; exact Nat.ne_of_gt (IsS157.lt (show IsS157 w0 _ g s0_0 t272 t273 from by repeat (first | (with_reducible first | exact HI0.out | apply IsS157.alloc | apply IsS157.drewN | apply IsS157.drew | apply IsS157.set_1 | apply IsS157.set_2 | refine IsS157.far ?_ NB0_252.out _ | refine IsS157.far ?_ NB0_267.out _) | exact HI0.out))) : gb274 ≠ g)); clear HO_268001; clear BK252; clear BK267; clear HI0; clear HK; clear HB; have HO_268001 := n0_; have BK252 := n1_; have BK267 := n2_; have HI0 := n3_; have HK := n4_; have HB := n5_; have BK274 := n6_; have GW274 := n7_; have GE274 := n8_; have NB252_274 := n9_; have NB274_252 := n10_; have NB267_274 := n11_; have NB274_267 := n12_; have NB0_274 := n13_; have NB274_0 := n14_; clear n0_ n1_ n2_ n3_ n4_ n5_ n6_ n7_ n8_ n9_ n10_ n11_ n12_ n13_ n14_; clear hb hbox hg; have hnb51 := NB274_252.out; have hnc51 := NB252_274.out; have hnb52 := NB274_267.out; have hnc52 := NB267_274.out; have hnb53 := NB274_0.out; have hnc53 := NB0_274.out; have hcz54_0 : w50.cell? ⟨gb274, 0, none⟩ = some (.string (⟨#[]⟩ : ByteArray)) := (blk_cell BK274.out 0).trans rfl; have hcz54_1 : w50.cell? ⟨gb274, 1, none⟩ = some (.int .i64 0) := (blk_cell BK274.out 1).trans rfl; have hfz54_0 := blk_frozen BK274.out 0; have hfz54_1 := blk_frozen BK274.out 1; have hnb55 := NB267_252.out; have hnc55 := NB252_267.out; have hnb56 := NB267_0.out; have hnc56 := NB0_267.out; have hcz57_0 : w50.cell? ⟨gb267, 0, none⟩ = some (.bool t262) := (blk_cell BK267.out 0).trans rfl; have hcz57_1 : w50.cell? ⟨gb267, 1, none⟩ = some (u268001) := (blk_cell BK267.out 1).trans rfl; have hcz57_2 : w50.cell? ⟨gb267, 2, none⟩ = some (.string t266) := (blk_cell BK267.out 2).trans rfl; have hfz57_0 := blk_frozen BK267.out 0; have hfz57_1 := blk_frozen BK267.out 1; have hfz57_2 := blk_frozen BK267.out 2; obtain ⟨Ao58, co58, eo58⟩ := Kd.R_slice HO_268001.out; subst eo58) | ((with_reducible refine gate_callee (f := 29) rfl ?_); refine goesL_ (some 27) rfl rfl Try.func29 (by kernel_rfl) rfl #[.agg #[.bool t262, .slice Ao58 x268001_1.length co58, .string t266], .string t268] rfl qm ?_; (with_reducible refine (spec_SlotOf.calls k1 t262 _ _ x268001_1 t266 t268 t275 _ ?side1 ?side2 A24.out).mono ?_); (case side1 => refine (Kd.R_reads' (e := 69) (base := w.heap.size) (ok := fun k_ => (True ∧ k_ ≠ gb274)) (n := x268001_1.length) (c := co58) ?_).2.2; exact (by refine qR ?_; exact (Kd.R_mono (Kd.R_far (p := ⟨gb274, 1, none⟩) (Kd.R_far (p := ⟨gb274, 0, none⟩) (Kd.R_mono HO_268001.out (fun k_ hk => (⟨hk, hk.2⟩ : _ ∧ k_ ≠ gb274))) (fun _ hk => hk.2) (.string t268)) (fun _ hk => hk.2) (.int .i64 (wrap64 (1 + t271)))) (fun _ h_ => h_.1)))); (case side2 => exact (Kd.R_reads' HO_268001.out).2.1); rintro e w59 ⟨rfl, hb⟩; refine ⟨_, rfl, ?_⟩; have n0_ := Aside0.mk (Kd.R_below (by refine qR ?_; exact (Kd.R_mono (Kd.R_far (p := ⟨gb274, 1, none⟩) (Kd.R_far (p := ⟨gb274, 0, none⟩) (Kd.R_mono HO_268001.out (fun k_ hk => (⟨hk, hk.2⟩ : _ ∧ k_ ≠ gb274))) (fun _ hk => hk.2) (.string t268)) (fun _ hk => hk.2) (.int .i64 (wrap64 (1 + t271)))) (fun _ h_ => h_.1))) hb); have n1_ := Aside0.mk (blk_below (g := gb252) (o := .cells #[.bool false, .slice none 0 0, .string (⟨#[]⟩ : ByteArray)] 59 (0, 0)) (by refine qK ?_; refine blk_far ?_ NB252_274.out _; refine qK ?_; refine blk_far ?_ NB252_274.out _; refine qK ?_; exact BK252.out) hb); have n2_ := Aside0.mk (blk_below (g := gb267) (o := .cells #[.bool t262, .slice Ao58 x268001_1.length co58, .string t266] 59 (0, 0)) (by refine qK ?_; refine blk_far ?_ NB267_274.out _; refine qK ?_; refine blk_far ?_ NB267_274.out _; refine qK ?_; exact BK267.out) hb); have n3_ := Aside0.mk (IsS157.below (show IsS157 w0 ((w50.setCell ⟨gb274, 0, none⟩ (.string t268)).setCell ⟨gb274, 1, none⟩ (.int .i64 (wrap64 (1 + t271)))) g s0_0 t272 t273 from by repeat (first | (with_reducible first | exact HI0.out | apply IsS157.alloc | apply IsS157.drewN | apply IsS157.drew | apply IsS157.set_1 | apply IsS157.set_2 | refine IsS157.far ?_ NB0_252.out _ | refine IsS157.far ?_ NB0_267.out _ | refine IsS157.far ?_ NB0_274.out _) | exact HI0.out)) hb); have n4_ := Aside0.mk (blk_below (g := gb274) (o := .cells #[.string t268, .int .i64 (wrap64 (1 + t271))] 69 (0, 0)) (by refine qK ?_; refine blk_put (cs := #[.string t268, .int .i64 0]) ?_ 1 _ rfl; refine qK ?_; refine blk_put (cs := #[.string (⟨#[]⟩ : ByteArray), .int .i64 0]) ?_ 0 _ rfl; refine qK ?_; exact BK274.out) hb); have n5_ := Aside0.mk (KeepBut.trans (qh3 HK.out GW252.out GW267.out GW274.out) (KeepBut.of_below hb g none) (.inl rfl)); have n6_ := Aside0.mk (below_step (qb4 HB.out (IsS157.ge HI0.out) GE252.out GE267.out GE274.out) hb); clear HO_268001; clear BK252; clear BK267; clear HI0; clear BK274; clear HK; clear HB; have HO_268001 := n0_; have BK252 := n1_; have BK267 := n2_; have HI0 := n3_; have BK274 := n4_; have HK := n5_; have HB := n6_; clear n0_ n1_ n2_ n3_ n4_ n5_ n6_; (try clear hb); (try clear hb2); (try clear hk); (try clear hi)) | (go_at_call 99; (with_reducible refine (spec_l01Once.calls g s0_0 t272 t273 2 false t277 t278 w0 _ ?side1 ?side2 A26.out).mono ?_); (case side1 => repeat (first | (with_reducible first | exact HI0.out | apply IsS157.alloc | apply IsS157.drewN | apply IsS157.drew | apply IsS157.set_1 | apply IsS157.set_2 | refine IsS157.far ?_ NB0_252.out _ | refine IsS157.far ?_ NB0_267.out _ | refine IsS157.far ?_ NB0_274.out _) | exact HI0.out)); (case side2 => repeat (first | (with_reducible first | exact HB.out | apply below_alloc | apply pw_below_drewN | apply below_drew1 | refine below_set ?_ (IsS157.ge HI0.out) | refine below_set ?_ GE252.out | refine below_set ?_ GE267.out | refine below_set ?_ GE274.out) | exact HB.out)); rintro e w60 ⟨rfl, hi, hb, hk⟩; have n0_ := Aside0.mk (Kd.R_mono (Kd.R_keep (IsS157.apart (show IsS157 w0 _ g s0_0 t272 t273 from by repeat (first | (with_reducible first | exact HI0.out | apply IsS157.alloc | apply IsS157.drewN | apply IsS157.drew | apply IsS157.set_1 | apply IsS157.set_2 | refine IsS157.far ?_ NB0_252.out _ | refine IsS157.far ?_ NB0_267.out _ | refine IsS157.far ?_ NB0_274.out _) | exact HI0.out)) (qr HO_268001.out) (by decide)) hk (fun _ h => h.2)) (fun _ h => h.1)); have n1_ := Aside0.mk (KeepBut.blk hk (g' := gb252) (o := .cells #[.bool false, .slice none 0 0, .string (⟨#[]⟩ : ByteArray)] 59 (0, 0)) (qk BK252.out) NB252_0.out (by simp)); have n2_ := Aside0.mk (KeepBut.blk hk (g' := gb267) (o := .cells #[.bool t262, .slice Ao58 x268001_1.length co58, .string t266] 59 (0, 0)) (qk BK267.out) NB267_0.out (by simp)); have n3_ := Aside0.mk (KeepBut.blk hk (g' := gb274) (o := .cells #[.string t268, .int .i64 (wrap64 (1 + t271))] 69 (0, 0)) (qk BK274.out) NB274_0.out (by simp)); have n4_ := Aside0.mk (KeepBut.trans (qh3 HK.out GW252.out GW267.out GW274.out) hk (.inl rfl)); have n5_ := Aside0.mk (hb); have n6_ := Aside0.mk (hi); clear HO_268001; clear BK252; clear BK267; clear BK274; clear HK; clear HB; clear HI0; have HO_268001 := n0_; have BK252 := n1_; have BK267 := n2_; have BK274 := n3_; have HK := n4_; have HB := n5_; have HI0 := n6_; clear n0_ n1_ n2_ n3_ n4_ n5_ n6_; (try clear hb); (try clear hb2); (try clear hk); (try clear hi)))
       go_roundg k1
       case measure => have := HK1.out; omega
       case rel => exact ⟨(wrap64 (x4_1 + 1)), (t277), (t278), (x268001_1), (.slice Ao58 x268001_1.length co58), qz, H', ⟨by have := HK1.out; omega⟩, ⟨by refine qR ?_; exact Kd.R_mono HO_268001.out (fun _ hk => trivial)⟩, ⟨qk BK252.out⟩, ⟨qk BK267.out⟩, ⟨by repeat (first | (with_reducible first | exact HI0.out | apply IsS157.alloc | apply IsS157.drewN | apply IsS157.drew | apply IsS157.set_1 | apply IsS157.set_2 | refine IsS157.far ?_ NB0_252.out _ | refine IsS157.far ?_ NB0_267.out _ | refine IsS157.far ?_ NB0_274.out _) | exact HI0.out)⟩, ⟨qh3 HK.out GW252.out GW267.out GW274.out⟩, ⟨qb4 HB.out (IsS157.ge HI0.out) GE252.out GE267.out GE274.out⟩⟩
     ·rw [if_neg c25] at H
      have c25b0 : decide (t275 < 0) = false := decide_eq_false c25
      clear c25
      have H' := Aside0.mk H
      clear H
      go_wp2_with (first | ((with_reducible refine gate_callee (f := 100) rfl ?_); refine goesL_ (some 19) rfl rfl Try.func100 (by kernel_rfl) rfl #[.pointer (some ⟨g, 0, none⟩)] rfl qm ?_; (with_reducible refine (spec_l04Name.calls g s0_0 x1001_1 x1002_1 t268 t269 t270 w0 _ ?side1 ?side2 A22.out).mono ?_); (case side1 => repeat (first | (with_reducible first | exact HI0.out | apply IsS157.alloc | apply IsS157.drewN | apply IsS157.drew | apply IsS157.set_1 | apply IsS157.set_2 | refine IsS157.far ?_ NB0_252.out _ | refine IsS157.far ?_ NB0_267.out _) | exact HI0.out)); (case side2 => repeat (first | (with_reducible first | exact HB.out | apply below_alloc | apply pw_below_drewN | apply below_drew1 | refine below_set ?_ (IsS157.ge HI0.out) | refine below_set ?_ GE252.out | refine below_set ?_ GE267.out) | exact HB.out)); rintro e w61 ⟨rfl, hi, hb, hk⟩; refine ⟨_, rfl, ?_⟩; have n0_ := Aside0.mk (Kd.R_mono (Kd.R_keep (IsS157.apart (show IsS157 w0 _ g s0_0 x1001_1 x1002_1 from by repeat (first | (with_reducible first | exact HI0.out | apply IsS157.alloc | apply IsS157.drewN | apply IsS157.drew | apply IsS157.set_1 | apply IsS157.set_2 | refine IsS157.far ?_ NB0_252.out _ | refine IsS157.far ?_ NB0_267.out _) | exact HI0.out)) (qr HO_268001.out) (by decide)) hk (fun _ h => h.2)) (fun _ h => h.1)); have n1_ := Aside0.mk (KeepBut.blk hk (g' := gb252) (o := .cells #[.bool false, .slice none 0 0, .string (⟨#[]⟩ : ByteArray)] 59 (0, 0)) (qk BK252.out) NB252_0.out (by simp)); have n2_ := Aside0.mk (KeepBut.blk hk (g' := gb267) (o := .cells #[.bool t262, u268001, .string t266] 59 (0, 0)) (qk BK267.out) NB267_0.out (by simp)); have n3_ := Aside0.mk (KeepBut.trans (qh2 HK.out GW252.out GW267.out) hk (.inl rfl)); have n4_ := Aside0.mk (hb); have n5_ := Aside0.mk (hi); clear HO_268001; clear BK252; clear BK267; clear HK; clear HB; clear HI0; have HO_268001 := n0_; have BK252 := n1_; have BK267 := n2_; have HK := n3_; have HB := n4_; have HI0 := n5_; clear n0_ n1_ n2_ n3_ n4_ n5_; (try clear hb); (try clear hb2); (try clear hk); (try clear hi)) | ((with_reducible refine gate_callee (f := 145) rfl ?_); refine goesL_ (some 21) rfl rfl Try.func145 (by kernel_rfl) rfl #[.pointer (some ⟨g, 0, none⟩), .int .i64 8] rfl qm ?_; (with_reducible refine (spec_l01Below.calls g s0_0 t269 t270 8 t271 t272 t273 w0 _ ?side1 ?side2 A23.out).mono ?_); (case side1 => repeat (first | (with_reducible first | exact HI0.out | apply IsS157.alloc | apply IsS157.drewN | apply IsS157.drew | apply IsS157.set_1 | apply IsS157.set_2 | refine IsS157.far ?_ NB0_252.out _ | refine IsS157.far ?_ NB0_267.out _) | exact HI0.out)); (case side2 => repeat (first | (with_reducible first | exact HB.out | apply below_alloc | apply pw_below_drewN | apply below_drew1 | refine below_set ?_ (IsS157.ge HI0.out) | refine below_set ?_ GE252.out | refine below_set ?_ GE267.out) | exact HB.out)); rintro e w62 ⟨rfl, hi, hb, hk⟩; refine ⟨_, rfl, ?_⟩; have n0_ := Aside0.mk (Kd.R_mono (Kd.R_keep (IsS157.apart (show IsS157 w0 _ g s0_0 t269 t270 from by repeat (first | (with_reducible first | exact HI0.out | apply IsS157.alloc | apply IsS157.drewN | apply IsS157.drew | apply IsS157.set_1 | apply IsS157.set_2 | refine IsS157.far ?_ NB0_252.out _ | refine IsS157.far ?_ NB0_267.out _) | exact HI0.out)) (qr HO_268001.out) (by decide)) hk (fun _ h => h.2)) (fun _ h => h.1)); have n1_ := Aside0.mk (KeepBut.blk hk (g' := gb252) (o := .cells #[.bool false, .slice none 0 0, .string (⟨#[]⟩ : ByteArray)] 59 (0, 0)) (qk BK252.out) NB252_0.out (by simp)); have n2_ := Aside0.mk (KeepBut.blk hk (g' := gb267) (o := .cells #[.bool t262, u268001, .string t266] 59 (0, 0)) (qk BK267.out) NB267_0.out (by simp)); have n3_ := Aside0.mk (KeepBut.trans (qh2 HK.out GW252.out GW267.out) hk (.inl rfl)); have n4_ := Aside0.mk (hb); have n5_ := Aside0.mk (hi); clear HO_268001; clear BK252; clear BK267; clear HK; clear HB; clear HI0; have HO_268001 := n0_; have BK252 := n1_; have BK267 := n2_; have HK := n3_; have HB := n4_; have HI0 := n5_; clear n0_ n1_ n2_ n3_ n4_ n5_; (try clear hb); (try clear hb2); (try clear hk); (try clear hi)) | ((with_reducible refine gate_dst (N := 5) rfl ?_); refine box_event ?hg (N := 5) ?hd (cs := #[.string (⟨#[]⟩ : ByteArray), .int .i64 0]) (t := 69) ?hr ?_; (case hd => rfl); (case hg => rfl); (case hr => first | (go_simp; done) | (go_simp; rfl)); intro gb274 hg w63 hbox hb; have n0_ := Aside0.mk (Kd.R_below (Kd.R_elderB (qr HO_268001.out) gb274 (Nat.le_of_eq hg.symm)) hb); have n1_ := Aside0.mk (blk_below (g := gb252) (o := .cells #[.bool false, .slice none 0 0, .string (⟨#[]⟩ : ByteArray)] 59 (0, 0)) (qk BK252.out) hb); have n2_ := Aside0.mk (blk_below (g := gb267) (o := .cells #[.bool t262, u268001, .string t266] 59 (0, 0)) (qk BK267.out) hb); have n3_ := Aside0.mk (IsS157.below (by repeat (first | (with_reducible first | exact HI0.out | apply IsS157.alloc | apply IsS157.drewN | apply IsS157.drew | apply IsS157.set_1 | apply IsS157.set_2 | refine IsS157.far ?_ NB0_252.out _ | refine IsS157.far ?_ NB0_267.out _) | exact HI0.out)) hb); have n4_ := Aside0.mk (KeepBut.trans (qh2 HK.out GW252.out GW267.out) (KeepBut.of_below hb g none) (.inl rfl)); have n5_ := Aside0.mk (below_step (qb3 HB.out (IsS157.ge HI0.out) GE252.out GE267.out) hb); have n6_ := Aside0.mk (hbox); have n7_ := Aside0.mk ((by rw [hg]; exact (keep_size (w := w) (g := g) (row := none) (qh2 HK.out GW252.out GW267.out)) : w.heap.size ≤ gb274)); have n8_ := Aside0.mk ((Nat.le_trans HW0.out (by rw [hg]; exact (keep_size (w := w) (g := g) (row := none) (qh2 HK.out GW252.out GW267.out)) : w.heap.size ≤ gb274) : w0.heap.size ≤ gb274)); have n9_ := Aside0.mk ((by rw [hg]; exact Nat.ne_of_lt (blk_lt (g := gb252) (o := .cells #[.bool false, .slice none 0 0, .string (⟨#[]⟩ : ByteArray)] 59 (0, 0)) (qk BK252.out)) : gb252 ≠ gb274)); have n10_ := Aside0.mk ((by rw [hg]; exact Nat.ne_of_gt (blk_lt (g := gb252) (o := .cells #[.bool false, .slice none 0 0, .string (⟨#[]⟩ : ByteArray)] 59 (0, 0)) (qk BK252.out)) : gb274 ≠ gb252)); have n11_ := Aside0.mk ((by rw [hg]; exact Nat.ne_of_lt (blk_lt (g := gb267) (o := .cells #[.bool t262, u268001, .string t266] 59 (0, 0)) (qk BK267.out)) : gb267 ≠ gb274)); have n12_ := Aside0.mk ((by rw [hg]; exact Nat.ne_of_gt (blk_lt (g := gb267) (o := .cells #[.bool t262, u268001, .string t266] 59 (0, 0)) (qk BK267.out)) : gb274 ≠ gb267)); have n13_ := Aside0.mk ((by rw [hg]; exact Nat.ne_of_lt (IsS157.lt (show IsS157 w0 _ g s0_0 t272 t273 from by repeat (first | (with_reducible first | exact HI0.out | apply IsS157.alloc | apply IsS157.drewN | apply IsS157.drew | apply IsS157.set_1 | apply IsS157.set_2 | refine IsS157.far ?_ NB0_252.out _ | refine IsS157.far ?_ NB0_267.out _) | exact HI0.out))) : g ≠ gb274)); have n14_ := Aside0.mk ((by rw [hg]; exact Nat.ne_of_gt (IsS157.lt (show IsS157 w0 _ g s0_0 t272 t273 from by repeat (first | (with_reducible first | exact HI0.out | apply IsS157.alloc | apply IsS157.drewN | apply IsS157.drew | apply IsS157.set_1 | apply IsS157.set_2 | refine IsS157.far ?_ NB0_252.out _ | refine IsS157.far ?_ NB0_267.out _) | exact HI0.out))) : gb274 ≠ g)); clear HO_268001; clear BK252; clear BK267; clear HI0; clear HK; clear HB; have HO_268001 := n0_; have BK252 := n1_; have BK267 := n2_; have HI0 := n3_; have HK := n4_; have HB := n5_; have BK274 := n6_; have GW274 := n7_; have GE274 := n8_; have NB252_274 := n9_; have NB274_252 := n10_; have NB267_274 := n11_; have NB274_267 := n12_; have NB0_274 := n13_; have NB274_0 := n14_; clear n0_ n1_ n2_ n3_ n4_ n5_ n6_ n7_ n8_ n9_ n10_ n11_ n12_ n13_ n14_; clear hb hbox hg; have hnb64 := NB274_252.out; have hnc64 := NB252_274.out; have hnb65 := NB274_267.out; have hnc65 := NB267_274.out; have hnb66 := NB274_0.out; have hnc66 := NB0_274.out; have hcz67_0 : w63.cell? ⟨gb274, 0, none⟩ = some (.string (⟨#[]⟩ : ByteArray)) := (blk_cell BK274.out 0).trans rfl; have hcz67_1 : w63.cell? ⟨gb274, 1, none⟩ = some (.int .i64 0) := (blk_cell BK274.out 1).trans rfl; have hfz67_0 := blk_frozen BK274.out 0; have hfz67_1 := blk_frozen BK274.out 1; have hnb68 := NB267_252.out; have hnc68 := NB252_267.out; have hnb69 := NB267_0.out; have hnc69 := NB0_267.out; have hcz70_0 : w63.cell? ⟨gb267, 0, none⟩ = some (.bool t262) := (blk_cell BK267.out 0).trans rfl; have hcz70_1 : w63.cell? ⟨gb267, 1, none⟩ = some (u268001) := (blk_cell BK267.out 1).trans rfl; have hcz70_2 : w63.cell? ⟨gb267, 2, none⟩ = some (.string t266) := (blk_cell BK267.out 2).trans rfl; have hfz70_0 := blk_frozen BK267.out 0; have hfz70_1 := blk_frozen BK267.out 1; have hfz70_2 := blk_frozen BK267.out 2; obtain ⟨Ao71, co71, eo71⟩ := Kd.R_slice HO_268001.out; subst eo71) | ((with_reducible refine gate_callee (f := 29) rfl ?_); refine goesL_ (some 27) rfl rfl Try.func29 (by kernel_rfl) rfl #[.agg #[.bool t262, .slice Ao71 x268001_1.length co71, .string t266], .string t268] rfl qm ?_; (with_reducible refine (spec_SlotOf.calls k1 t262 _ _ x268001_1 t266 t268 t275 _ ?side1 ?side2 A24.out).mono ?_); (case side1 => refine (Kd.R_reads' (e := 69) (base := w.heap.size) (ok := fun k_ => (True ∧ k_ ≠ gb274)) (n := x268001_1.length) (c := co71) ?_).2.2; exact (by refine qR ?_; exact (Kd.R_mono (Kd.R_far (p := ⟨gb274, 1, none⟩) (Kd.R_far (p := ⟨gb274, 0, none⟩) (Kd.R_mono HO_268001.out (fun k_ hk => (⟨hk, hk.2⟩ : _ ∧ k_ ≠ gb274))) (fun _ hk => hk.2) (.string t268)) (fun _ hk => hk.2) (.int .i64 (wrap64 (1 + t271)))) (fun _ h_ => h_.1)))); (case side2 => exact (Kd.R_reads' HO_268001.out).2.1); rintro e w72 ⟨rfl, hb⟩; refine ⟨_, rfl, ?_⟩; have n0_ := Aside0.mk (Kd.R_below (by refine qR ?_; exact (Kd.R_mono (Kd.R_far (p := ⟨gb274, 1, none⟩) (Kd.R_far (p := ⟨gb274, 0, none⟩) (Kd.R_mono HO_268001.out (fun k_ hk => (⟨hk, hk.2⟩ : _ ∧ k_ ≠ gb274))) (fun _ hk => hk.2) (.string t268)) (fun _ hk => hk.2) (.int .i64 (wrap64 (1 + t271)))) (fun _ h_ => h_.1))) hb); have n1_ := Aside0.mk (blk_below (g := gb252) (o := .cells #[.bool false, .slice none 0 0, .string (⟨#[]⟩ : ByteArray)] 59 (0, 0)) (by refine qK ?_; refine blk_far ?_ NB252_274.out _; refine qK ?_; refine blk_far ?_ NB252_274.out _; refine qK ?_; exact BK252.out) hb); have n2_ := Aside0.mk (blk_below (g := gb267) (o := .cells #[.bool t262, .slice Ao71 x268001_1.length co71, .string t266] 59 (0, 0)) (by refine qK ?_; refine blk_far ?_ NB267_274.out _; refine qK ?_; refine blk_far ?_ NB267_274.out _; refine qK ?_; exact BK267.out) hb); have n3_ := Aside0.mk (IsS157.below (show IsS157 w0 ((w63.setCell ⟨gb274, 0, none⟩ (.string t268)).setCell ⟨gb274, 1, none⟩ (.int .i64 (wrap64 (1 + t271)))) g s0_0 t272 t273 from by repeat (first | (with_reducible first | exact HI0.out | apply IsS157.alloc | apply IsS157.drewN | apply IsS157.drew | apply IsS157.set_1 | apply IsS157.set_2 | refine IsS157.far ?_ NB0_252.out _ | refine IsS157.far ?_ NB0_267.out _ | refine IsS157.far ?_ NB0_274.out _) | exact HI0.out)) hb); have n4_ := Aside0.mk (blk_below (g := gb274) (o := .cells #[.string t268, .int .i64 (wrap64 (1 + t271))] 69 (0, 0)) (by refine qK ?_; refine blk_put (cs := #[.string t268, .int .i64 0]) ?_ 1 _ rfl; refine qK ?_; refine blk_put (cs := #[.string (⟨#[]⟩ : ByteArray), .int .i64 0]) ?_ 0 _ rfl; refine qK ?_; exact BK274.out) hb); have n5_ := Aside0.mk (KeepBut.trans (qh3 HK.out GW252.out GW267.out GW274.out) (KeepBut.of_below hb g none) (.inl rfl)); have n6_ := Aside0.mk (below_step (qb4 HB.out (IsS157.ge HI0.out) GE252.out GE267.out GE274.out) hb); clear HO_268001; clear BK252; clear BK267; clear HI0; clear BK274; clear HK; clear HB; have HO_268001 := n0_; have BK252 := n1_; have BK267 := n2_; have HI0 := n3_; have BK274 := n4_; have HK := n5_; have HB := n6_; clear n0_ n1_ n2_ n3_ n4_ n5_ n6_; (try clear hb); (try clear hb2); (try clear hk); (try clear hi)))
      go_roundg k1
      case measure => have := HK1.out; omega
      case rel => exact ⟨(wrap64 (x4_1 + 1)), (t272), (t273), (x268001_1), (.slice Ao71 x268001_1.length co71), qz, H', ⟨by have := HK1.out; omega⟩, ⟨by refine qR ?_; exact Kd.R_mono HO_268001.out (fun _ hk => trivial)⟩, ⟨qk BK252.out⟩, ⟨qk BK267.out⟩, ⟨by repeat (first | (with_reducible first | exact HI0.out | apply IsS157.alloc | apply IsS157.drewN | apply IsS157.drew | apply IsS157.set_1 | apply IsS157.set_2 | refine IsS157.far ?_ NB0_252.out _ | refine IsS157.far ?_ NB0_267.out _ | refine IsS157.far ?_ NB0_274.out _) | exact HI0.out)⟩, ⟨qh3 HK.out GW252.out GW267.out GW274.out⟩, ⟨qb4 HB.out (IsS157.ge HI0.out) GE252.out GE267.out GE274.out⟩⟩
    ·rw [if_neg c21] at H
     have c21b0 : decide (x4_1 < 4) = false := decide_eq_false c21
     clear c21
     simp only [Option.some.injEq, Prod.mk.injEq] at H
     obtain ⟨rfl, rfl, rfl, rfl, rfl⟩ := H
     have hnb73 := NB267_252.out
     have hnc73 := NB252_267.out
     have hnb74 := NB267_0.out
     have hnc74 := NB0_267.out
     have hcz75_0 : wr.cell? ⟨gb267, 0, none⟩ = some (.bool t262) := (blk_cell BK267.out 0).trans rfl
     have hcz75_1 : wr.cell? ⟨gb267, 1, none⟩ = some (u268001) := (blk_cell BK267.out 1).trans rfl
     have hcz75_2 : wr.cell? ⟨gb267, 2, none⟩ = some (.string t266) := (blk_cell BK267.out 2).trans rfl
     have hfz75_0 := blk_frozen BK267.out 0
     have hfz75_1 := blk_frozen BK267.out 1
     have hfz75_2 := blk_frozen BK267.out 2
     have hnb76 := NB252_0.out
     have hnc76 := NB0_252.out
     have hcz77_0 : wr.cell? ⟨gb252, 0, none⟩ = some (.bool false) := (blk_cell BK252.out 0).trans rfl
     have hcz77_1 : wr.cell? ⟨gb252, 1, none⟩ = some (.slice none 0 0) := (blk_cell BK252.out 1).trans rfl
     have hcz77_2 : wr.cell? ⟨gb252, 2, none⟩ = some (.string (⟨#[]⟩ : ByteArray)) := (blk_cell BK252.out 2).trans rfl
     have hfz77_0 := blk_frozen BK252.out 0
     have hfz77_1 := blk_frozen BK252.out 1
     have hfz77_2 := blk_frozen BK252.out 2
     obtain ⟨Ao78, co78, eo78⟩ := Kd.R_slice HO_268001.out
     subst eo78
     go_wp2
     refine bodyPost_ret (results_cell_row rfl _ _ gb252 59 #[.bool t262, .slice Ao78 x268001_1.length co78, .string t266] (0, 0) _ rfl (by refine qK ?_; refine blk_put (cs := #[.bool t262, .slice Ao78 x268001_1.length co78, .string (⟨#[]⟩ : ByteArray)]) ?_ 2 _ rfl; refine qK ?_; refine blk_put (cs := #[.bool t262, .slice none 0 0, .string (⟨#[]⟩ : ByteArray)]) ?_ 1 _ rfl; refine qK ?_; refine blk_put (cs := #[.bool false, .slice none 0 0, .string (⟨#[]⟩ : ByteArray)]) ?_ 0 _ rfl; refine qK ?_; exact BK252.out) Try.underlying59 rfl (by kernel_rfl)) rfl ?_
     exact ⟨_, qe, by refine qR ?_; exact Kd.R_mono (Kd.R_far (p := ⟨gb252, 2, none⟩) (Kd.R_far (p := ⟨gb252, 1, none⟩) (Kd.R_far (p := ⟨gb252, 0, none⟩) (Kd.R_types HO_268001.out BK252.out (by decide)) (fun _ hk => hk.2) (.bool t262)) (fun _ hk => hk.2) (.slice Ao78 x268001_1.length co78)) (fun _ hk => hk.2) (.string t266)) (fun _ hk => trivial), by repeat (first | (with_reducible first | exact HI0.out | apply IsS157.alloc | apply IsS157.drewN | apply IsS157.drew | apply IsS157.set_1 | apply IsS157.set_2 | refine IsS157.far ?_ NB0_252.out _ | refine IsS157.far ?_ NB0_267.out _) | exact HI0.out), qb3 HB.out (IsS157.ge HI0.out) GE252.out GE267.out, qh2 HK.out GW252.out GW267.out⟩

/-! ### spec_l04Copy: function 147 -/
def spec_l04Copy.f (a0_0 : Bool) (l0_1 : List (S69)) (a0_2 : ByteArray) : Option (Bool × (List (S69)) × ByteArray) := (some (([] : List (S69)) : List (S69))).bind fun y282 => (if y282.length + l0_1.length < 5864062014805 then (some (a0_0, (y282 ++ l0_1), a0_2)) else (none))
set_option maxHeartbeats 8000000 in
set_option maxRecDepth 100000 in
theorem spec_l04Copy.calls (a0_0 : Bool) (A0_1 : Option Addr) (c0_1 : Nat) (l0_1 : List (S69)) (a0_2 : ByteArray) (r1 : Bool) (r2 : List (S69)) (r3 : ByteArray) (w : World) (hr0_1 : Kd.C k69 w A0_1 l0_1.length l0_1) (hc0_1 : l0_1.length ≤ c0_1) (h : spec_l04Copy.f a0_0 l0_1 a0_2 = some (r1, r2, r3)) :
  Calls Try.prog 147 #[.agg #[.bool a0_0, .slice A0_1 l0_1.length c0_1, .string a0_2]] w fun e w' => ∃ v1_ : Value, e = .returned (.agg #[.bool r1, v1_, .string r3]) ∧ Kd.R k69 69 w' w.heap.size (fun _ => True) v1_ r2 ∧ Below w.heap.size w w' := by
 have hu59 := Try.underlying59
 have HR0_1 := Aside0.mk hr0_1
 have HC0_1 := Aside0.mk hc0_1
 clear hr0_1 hc0_1
 have HB := Aside0.mk (Below.refl w.heap.size w)
 have H : ((some (([] : List (S69)) : List (S69))).bind fun y282 => (if y282.length + l0_1.length < 5864062014805 then (some (a0_0, (y282 ++ l0_1), a0_2)) else (none))) = some (r1, r2, r3) := h
 clear h
 obtain ⟨y282, hy282⟩ : ∃ y_ : List (S69), y_ = (([] : List (S69))) := ⟨_, rfl⟩
 replace H : (if y282.length + l0_1.length < 5864062014805 then (some (a0_0, (y282 ++ l0_1), a0_2)) else (none)) = some (r1, r2, r3) := by first | (rw [hy282]; with_reducible exact H) | (have H2_ := (Option.bind_some _ _).symm.trans H; rw [hy282]; with_reducible exact H2_) | (have H2_ := (Option.bind_some _ _).symm.trans H; with_reducible exact H2_) | with_reducible exact H | (rw [hy282]; exact H) | exact H
 have Ny282 := Aside0.mk hy282
 clear hy282
 by_cases c2 : y282.length + l0_1.length < 5864062014805
 ·rw [if_pos c2] at H
  have LMc2 := Aside0.mk c2
  clear c2
  obtain ⟨y285, hy285⟩ : ∃ y_ : List (S69), y_ = (y282 ++ l0_1) := ⟨_, rfl⟩
  replace H : (some (a0_0, y285, a0_2)) = some (r1, r2, r3) := by first | (rw [hy285]; with_reducible exact H) | (have H2_ := (Option.bind_some _ _).symm.trans H; rw [hy285]; with_reducible exact H2_) | (have H2_ := (Option.bind_some _ _).symm.trans H; with_reducible exact H2_) | with_reducible exact H | (rw [hy285]; exact H) | exact H
  have Ny285 := Aside0.mk hy285
  clear hy285
  simp only [Option.some.injEq, Prod.mk.injEq] at H
  obtain ⟨rfl, rfl, rfl⟩ := H
  go_enter Try.func147, Try.ntmps147
  go_wp2_with (first | ((with_reducible refine gate_dst (N := 1) rfl ?_); refine box_event ?hg (N := 1) ?hd (cs := #[.bool a0_0, .slice A0_1 l0_1.length c0_1, .string a0_2]) (t := 59) ?hr ?_; (case hd => rfl); (case hg => rfl); (case hr => first | (go_simp; done) | (go_simp; rfl)); intro gb280 hg w3 hbox hb; have n0_ := Aside0.mk (below_step (qb HB.out) hb); have n1_ := Aside0.mk (hbox); have n2_ := Aside0.mk ((by rw [hg]; exact (below_size (qb HB.out)) : w.heap.size ≤ gb280)); have n3_ := Aside0.mk ((by rw [hg]; exact (below_size (qb HB.out)) : w.heap.size ≤ gb280)); clear HB; have HB := n0_; have BK280 := n1_; have GW280 := n2_; have GE280 := n3_; clear n0_ n1_ n2_ n3_; clear hb hbox hg) | ((with_reducible refine gate_dst (N := 2) rfl ?_); refine box_event ?hg (N := 2) ?hd (cs := #[.bool false, .slice none 0 0, .string (⟨#[]⟩ : ByteArray)]) (t := 59) ?hr ?_; (case hd => rfl); (case hg => rfl); (case hr => first | (go_simp; done) | (go_simp; rfl)); intro gb281 hg w4 hbox hb; have n0_ := Aside0.mk (blk_below (g := gb280) (o := .cells #[.bool a0_0, .slice A0_1 l0_1.length c0_1, .string a0_2] 59 (0, 0)) (qk BK280.out) hb); have n1_ := Aside0.mk (below_step (qb1 HB.out GE280.out) hb); have n2_ := Aside0.mk (hbox); have n3_ := Aside0.mk ((by rw [hg]; exact (below_size (qb1 HB.out GE280.out)) : w.heap.size ≤ gb281)); have n4_ := Aside0.mk ((by rw [hg]; exact (below_size (qb1 HB.out GE280.out)) : w.heap.size ≤ gb281)); have n5_ := Aside0.mk ((by rw [hg]; exact Nat.ne_of_lt (blk_lt (g := gb280) (o := .cells #[.bool a0_0, .slice A0_1 l0_1.length c0_1, .string a0_2] 59 (0, 0)) (qk BK280.out)) : gb280 ≠ gb281)); have n6_ := Aside0.mk ((by rw [hg]; exact Nat.ne_of_gt (blk_lt (g := gb280) (o := .cells #[.bool a0_0, .slice A0_1 l0_1.length c0_1, .string a0_2] 59 (0, 0)) (qk BK280.out)) : gb281 ≠ gb280)); clear BK280; clear HB; have BK280 := n0_; have HB := n1_; have BK281 := n2_; have GW281 := n3_; have GE281 := n4_; have NB280_281 := n5_; have NB281_280 := n6_; clear n0_ n1_ n2_ n3_ n4_ n5_ n6_; clear hb hbox hg) | ((with_reducible refine gate_dst (N := 3) rfl ?_); refine Kd.R_lit k69 _ 69 ?hg (N := 3) ?hd (xs := ([] : List (S69))) (inner := []) (ok := fun _ => True) (okp := fun _ => True) ?hr ?hp (fun _ hk => hk) trivial (Below.refl _ _) (Nat.le_refl _) (by simp) ?_; (case hd => rfl); (case hg => rfl); (case hr => first | (go_simp; done) | (go_simp; rfl)); (case hp => exact (Reps.none _ _)); intro v283 w5 ho6 hb hg_ hnew_; clear hg_ hnew_; (first | rw [← Ny282.out] at ho6 | (simp only [Int.reduceToNat] at ho6; rw [← Ny282.out] at ho6)); have n0_ := Aside0.mk (Kd.R_lower ho6 (below_size (qb2 HB.out GE280.out GE281.out))); have n1_ := Aside0.mk (blk_below (g := gb280) (o := .cells #[.bool a0_0, .slice A0_1 l0_1.length c0_1, .string a0_2] 59 (0, 0)) (qk BK280.out) hb); have n2_ := Aside0.mk (blk_below (g := gb281) (o := .cells #[.bool false, .slice none 0 0, .string (⟨#[]⟩ : ByteArray)] 59 (0, 0)) (qk BK281.out) hb); have n3_ := Aside0.mk (below_step (qb2 HB.out GE280.out GE281.out) hb); clear BK280; clear BK281; clear HB; have HO284 := n0_; have BK280 := n1_; have BK281 := n2_; have HB := n3_; clear n0_ n1_ n2_ n3_; clear hb ho6; have hnb7 := NB280_281.out; have hnc7 := NB281_280.out; have hcz8_0 : w5.cell? ⟨gb280, 0, none⟩ = some (.bool a0_0) := (blk_cell BK280.out 0).trans rfl; have hcz8_1 : w5.cell? ⟨gb280, 1, none⟩ = some (.slice A0_1 l0_1.length c0_1) := (blk_cell BK280.out 1).trans rfl; have hcz8_2 : w5.cell? ⟨gb280, 2, none⟩ = some (.string a0_2) := (blk_cell BK280.out 2).trans rfl; have hfz8_0 := blk_frozen BK280.out 0; have hfz8_1 := blk_frozen BK280.out 1; have hfz8_2 := blk_frozen BK280.out 2) | ((with_reducible refine gate_builtin (b := .append) (xs := #[.tmp 3, .tmp 5]) rfl ?_); at_builtin; refine Kd.R_append_rows k69 (w0 := w) w.heap.size rfl (.tmp 3) (.tmp 5) 57 69 (.agg #[(.string ⟨#[]⟩), (.int .i64 0)]) 24 rfl Try.underlying57 info69 rfl (by decide) (by omega) v283 y282 l0_1 _ _ _ (fun _ => True) (fun _ => False) rfl rfl ?aO ?aR (fun _ _ h => h) (fun _ h => h.elim) ?aF ?aB ?aS ?aL ?_; (case aR => repeat (first | exact (Kd.C_below HR0_1.out HB.out) | (with_reducible refine Kd.C_alloc ?_ _) | (with_reducible refine Kd.C_drewN ?_ _) | (with_reducible refine Kd.C_drew ?_))); (case aB => exact (qb2 HB.out GE280.out GE281.out)); (case aF => exact (fun _ _ => trivial)); (case aO => exact (qr HO284.out)); (case aS => exact (below_size (qb2 HB.out GE280.out GE281.out))); (case aL => have := LMc2.out; omega); intro v286 w9 ho hb hg hat; rw [← Ny285.out] at ho; have n0_ := Aside0.mk (blk_grown (g := gb280) (o := .cells #[.bool a0_0, .slice A0_1 l0_1.length c0_1, .string a0_2] 59 (0, 0)) (qk BK280.out) hg (Kd.R_ne HO284.out BK280.out (by decide))); have n1_ := Aside0.mk (blk_grown (g := gb281) (o := .cells #[.bool false, .slice none 0 0, .string (⟨#[]⟩ : ByteArray)] 59 (0, 0)) (qk BK281.out) hg (Kd.R_ne HO284.out BK281.out (by decide))); have n2_ := Aside0.mk (hb); have n3_ := Aside0.mk (ho); clear BK280; clear BK281; clear HB; clear HO284; have BK280 := n0_; have BK281 := n1_; have HB := n2_; have HO287 := n3_; clear n0_ n1_ n2_ n3_; clear ho hb hg hat; obtain ⟨Ao10, co10, eo10⟩ := Kd.R_slice HO287.out; subst eo10; have hcz11_0 : w9.cell? ⟨gb280, 0, none⟩ = some (.bool a0_0) := (blk_cell BK280.out 0).trans rfl; have hcz11_1 : w9.cell? ⟨gb280, 1, none⟩ = some (.slice A0_1 l0_1.length c0_1) := (blk_cell BK280.out 1).trans rfl; have hcz11_2 : w9.cell? ⟨gb280, 2, none⟩ = some (.string a0_2) := (blk_cell BK280.out 2).trans rfl; have hfz11_0 := blk_frozen BK280.out 0; have hfz11_1 := blk_frozen BK280.out 1; have hfz11_2 := blk_frozen BK280.out 2; have hcz12_0 : w9.cell? ⟨gb281, 0, none⟩ = some (.bool false) := (blk_cell BK281.out 0).trans rfl; have hcz12_1 : w9.cell? ⟨gb281, 1, none⟩ = some (.slice none 0 0) := (blk_cell BK281.out 1).trans rfl; have hcz12_2 : w9.cell? ⟨gb281, 2, none⟩ = some (.string (⟨#[]⟩ : ByteArray)) := (blk_cell BK281.out 2).trans rfl; have hfz12_0 := blk_frozen BK281.out 0; have hfz12_1 := blk_frozen BK281.out 1; have hfz12_2 := blk_frozen BK281.out 2))
  refine bodyPost_ret (results_cell_row rfl _ _ gb281 59 #[.bool a0_0, .slice Ao10 y285.length co10, .string a0_2] (0, 0) _ rfl (by refine qK ?_; refine blk_put (cs := #[.bool a0_0, .slice Ao10 y285.length co10, .string (⟨#[]⟩ : ByteArray)]) ?_ 2 _ rfl; refine qK ?_; refine blk_put (cs := #[.bool a0_0, .slice none 0 0, .string (⟨#[]⟩ : ByteArray)]) ?_ 1 _ rfl; refine qK ?_; refine blk_put (cs := #[.bool false, .slice none 0 0, .string (⟨#[]⟩ : ByteArray)]) ?_ 0 _ rfl; refine qK ?_; refine blk_far ?_ NB281_280.out _; refine qK ?_; exact BK281.out) Try.underlying59 rfl (by kernel_rfl)) rfl ?_
  exact ⟨_, qe, by refine qR ?_; exact Kd.R_mono (Kd.R_far (p := ⟨gb281, 2, none⟩) (Kd.R_far (p := ⟨gb281, 1, none⟩) (Kd.R_far (p := ⟨gb281, 0, none⟩) (Kd.R_far (p := ⟨gb280, 1, none⟩) (Kd.R_types (Kd.R_types HO287.out BK280.out (by decide)) BK281.out (by decide)) (fun _ hk => hk.1.2) (.slice Ao10 y285.length co10)) (fun _ hk => hk.2) (.bool a0_0)) (fun _ hk => hk.2) (.slice Ao10 y285.length co10)) (fun _ hk => hk.2) (.string a0_2)) (fun _ hk => trivial), qb2 HB.out GE280.out GE281.out⟩
 ·rw [if_neg c2] at H
  exact absurd H (by simp)

/-! ### spec_l01Long: function 148 -/
def spec_l01Long.l0 : Nat → Int → Int → List Int → Int → Option (ByteArray)
 | 0, _, _, _, _ => none
 | k + 1, x0, x1, x5, x6 => if x6 < x0 then (if 0 ≤ x6 then (if x6 < (x5.length : Int) then (spec_l01Long.l0 k x0 x1 (x5.set (x6 : Int).toNat x1) (wrap64 (x6 + 1))) else (none)) else (none)) else (some (strOfNums x5))
def spec_l01Long.f (k : Nat) (a0 : Int) (a1 : Int) : Option (ByteArray) := if 0 ≤ a0 then (if (a0 : Int).toNat ≤ 281474976710656 then (spec_l01Long.l0 k a0 a1 (List.replicate (a0 : Int).toNat 0) 0) else (none)) else (none)
theorem spec_l01Long.mono_l : ∀ k, (∀ y0 y1 y2 y3, LeO (spec_l01Long.l0 k y0 y1 y2 y3) (spec_l01Long.l0 (k + 1) y0 y1 y2 y3))
 | 0 => fun _ _ _ _ r h => by simp [spec_l01Long.l0] at h
 | k + 1 => by
  have ih0 := spec_l01Long.mono_l k
  ·intro y0 y1 y2 y3
   unfold spec_l01Long.l0
   repeat' first
   | (with_reducible exact ih0 _ _ _ _)
   | with_reducible first | exact LeO.refl _ | exact LeO.none _ | refine LeO.ite ?_ ?_ | refine LeO.bind ?_ (fun _ => ?_)
   | exact ih0 _ _ _ _
   | exact LeO.none _
   | refine LeO.ite ?_ ?_
   | refine LeO.bind ?_ (fun _ => ?_)
theorem spec_l01Long.mono : ∀ a0 a1 k, LeO (spec_l01Long.f k a0 a1) (spec_l01Long.f (k + 1) a0 a1) := by
 intro a0 a1 k
 have ih0 := spec_l01Long.mono_l k
 unfold spec_l01Long.f
 repeat' first
   | (with_reducible exact ih0 _ _ _ _)
   | with_reducible first | exact LeO.refl _ | exact LeO.none _ | refine LeO.ite ?_ ?_ | refine LeO.bind ?_ (fun _ => ?_)
   | exact ih0 _ _ _ _
   | exact LeO.none _
   | refine LeO.ite ?_ ?_
   | refine LeO.bind ?_ (fun _ => ?_)
set_option maxHeartbeats 8000000 in
set_option maxRecDepth 100000 in
theorem spec_l01Long.calls (k : Nat) (a0 : Int) (a1 : Int) (r : ByteArray) (w : World) (h : spec_l01Long.f k a0 a1 = some r) :
  Calls Try.prog 148 #[.int .i64 a0, .int .u8 a1] w fun e w' => e = .returned (.string r) ∧ Below w.heap.size w w' := by
 have HB := Aside0.mk (Below.refl w.heap.size w)
 have H : (if 0 ≤ a0 then (if (a0 : Int).toNat ≤ 281474976710656 then (spec_l01Long.l0 k a0 a1 (List.replicate (a0 : Int).toNat 0) 0) else (none)) else (none)) = some r := h
 clear h
 by_cases c3 : 0 ≤ a0
 ·rw [if_pos c3] at H
  have c3b0 := eq_true c3
  have c3b1 : decide (0 ≤ a0) = true := decide_eq_true c3
  clear c3
  by_cases c4 : (a0 : Int).toNat ≤ 281474976710656
  ·rw [if_pos c4] at H
   have c4b0 := eq_true c4
   have c4b1 : decide ((a0 : Int).toNat ≤ 281474976710656) = true := decide_eq_true c4
   clear c4
   obtain ⟨y288, hy288⟩ : ∃ y_ : List Int, y_ = (List.replicate (a0 : Int).toNat 0) := ⟨_, rfl⟩
   replace H : (spec_l01Long.l0 k a0 a1 y288 0) = some r := by first | (rw [hy288]; with_reducible exact H) | (have H2_ := (Option.bind_some _ _).symm.trans H; rw [hy288]; with_reducible exact H2_) | (have H2_ := (Option.bind_some _ _).symm.trans H; with_reducible exact H2_) | with_reducible exact H | (rw [hy288]; exact H) | exact H
   have Ny288 := Aside0.mk hy288
   clear hy288
   have H' := Aside0.mk H
   clear H
   go_enter Try.func148, Try.ntmps148
   go_wp2_with (first | ((with_reducible refine gate_dst (N := 8) rfl ?_); refine Kd.R_make (Kd.int .u8) _ 5 rfl (N := 8) rfl 65 _ _ rfl a0 rfl rfl Try.underlying65 (.int .u8 0) 1 info5 rfl (by decide) (by omega) 0 (ok := fun _ => True) (okp := fun _ => True) rfl (fun _ hk => hk) trivial qo (Nat.le_trans (Nat.mul_le_mul_right _ (qo : a0.toNat ≤ 281474976710656)) (by omega)) (Below.refl _ _) (Nat.le_refl _) ?_; intro v289 w5 ho6 hb hg_ hnew_; clear hg_ hnew_; (first | rw [← Ny288.out] at ho6 | (simp only [Int.reduceToNat] at ho6; rw [← Ny288.out] at ho6)); have n0_ := Aside0.mk (Kd.R_lower ho6 (below_size (qb HB.out))); have n1_ := Aside0.mk (below_step (qb HB.out) hb); clear HB; have HO290 := n0_; have HB := n1_; clear n0_ n1_; clear hb ho6))
   go_loopg [6] k (fun kq v6 w' => ∃ (x5_1 : List Int) (x6_1 : Int), v6 = .int .i64 x6_1 ∧ Aside0 (spec_l01Long.l0 kq a0 a1 x5_1 x6_1 = some r) ∧ Aside0 (kq ≤ k) ∧ Aside0 (Kd.R (Kd.int .u8) 5 w' w.heap.size (fun _ => True) v289 x5_1) ∧ Aside0 (Below w.heap.size w w'))
   case atStart => exact ⟨(y288), (0), qz, H', ⟨Nat.le_refl _⟩, ⟨qr HO290.out⟩, ⟨qb HB.out⟩⟩
   case round =>
    clear H'
    try clear c1
    try clear p2
    try clear c3
    try clear c3b0
    try clear c3b1
    try clear c4
    try clear c4b0
    try clear c4b1
    obtain ⟨x5_1, x6_1, rfl, HA, HK1, HO_5, HB⟩ := hrel
    cases gk with
    | zero => exact absurd HA.out (by simp [spec_l01Long.l0])
    | succ k1 =>
     have H := HA.out
     clear HA
     simp only [spec_l01Long.l0] at H
     by_cases c7 : x6_1 < a0
     ·rw [if_pos c7] at H
      have c7b0 : decide (x6_1 < a0) = true := decide_eq_true c7
      clear c7
      by_cases c8 : 0 ≤ x6_1
      ·rw [if_pos c8] at H
       have c8b0 : decide (0 ≤ x6_1) = true := decide_eq_true c8
       clear c8
       by_cases c9 : x6_1 < (x5_1.length : Int)
       ·rw [if_pos c9] at H
        have c9b0 : decide (x6_1 < (x5_1.length : Int)) = true := decide_eq_true c9
        clear c9
        obtain ⟨y291, hy291⟩ : ∃ y_ : List Int, y_ = (x5_1.set (x6_1 : Int).toNat a1) := ⟨_, rfl⟩
        replace H : (spec_l01Long.l0 k1 a0 a1 y291 (wrap64 (x6_1 + 1))) = some r := by first | (rw [hy291]; with_reducible exact H) | (have H2_ := (Option.bind_some _ _).symm.trans H; rw [hy291]; with_reducible exact H2_) | (have H2_ := (Option.bind_some _ _).symm.trans H; with_reducible exact H2_) | with_reducible exact H | (rw [hy291]; exact H) | exact H
        have Ny291 := Aside0.mk hy291
        clear hy291
        have H' := Aside0.mk H
        clear H
        have p10 : 0 ≤ (x6_1 : Int) := qo
        have q10 : (x6_1 : Int) < ((x5_1.length : Int) : Int) := qo
        obtain ⟨go10, co10, eo10, gb10, gl10, cl10, HG10⟩ := Kd.R_form HO_5.out (by omega)
        (first | cases eo10 | (injection eo10 with ea_ en_ ec_; (first | subst ea_ | (injection ea_ with ea_; subst ea_)); subst ec_; clear en_))
        have GB10 := Aside0.mk gb10
        have GG10 := Aside0.mk HG10
        clear gb10 gl10 HG10
        obtain ⟨hx10_0, hf10_0⟩ := Kd.R_celln 0 HO_5.out (x6_1 : Int) p10 q10
        replace p10 := eq_true p10
        replace q10 := eq_true q10
        have HP11 := Kd.R_putg HO_5.out (x6_1 : Int) a1
        go_wp2_with (first | ((with_reducible refine gate_store (t := 5) (p := 17) rfl ?_); refine store_event (t := 5) (p := 17) (v := ?vo_w12) (w1 := (wr.setCell ⟨go10, (x6_1 : Int).toNat, none⟩ (.int .u8 a1))) ?hg ?ho ?hn ?hr ?_; (case ho => rfl); (case hg => rfl); (case hn => rfl); (case hr => first | (go_simp; done) | (go_simp; rfl)); intro w12 hw; have hg : wr.grownBy w12 (some go10) := (by rw [hw]; exact HP11.2); have hp_ : Kd.R (Kd.int .u8) 5 w12 w.heap.size (fun _ => True) (.slice (some ⟨go10, 0, none⟩) x5_1.length co10) y291 := (by rw [hw, Ny291.out]; exact HP11.1); clear HP11; have n0_ := Aside0.mk (hp_); have n1_ := Aside0.mk ((by rw [hw]; exact below_set (HB.out) GB10.out : Below w.heap.size w w12)); clear HO_5; clear HB; have HO_5 := n0_; have HB := n1_; clear n0_ n1_; clear hg hw hp_))
        go_roundg k1
        case measure => have := HK1.out; omega
        case rel => exact ⟨(y291), (wrap64 (x6_1 + 1)), qz, H', ⟨by have := HK1.out; omega⟩, ⟨qr HO_5.out⟩, ⟨qb HB.out⟩⟩
       ·rw [if_neg c9] at H
        exact absurd H (by simp)
      ·rw [if_neg c8] at H
       exact absurd H (by simp)
     ·rw [if_neg c7] at H
      have c7b0 : decide (x6_1 < a0) = false := decide_eq_false c7
      clear c7
      obtain rfl := Option.some.inj H
      have hcv13 := own_string (P := Try.prog) Try.underlying65 Try.underlying5 Try.underlying9 (Kd.own_of_R HO_5.out)
      go_wp2
      go_ret
      exact ⟨qe, qb HB.out⟩
  ·rw [if_neg c4] at H
   exact absurd H (by simp)
 ·rw [if_neg c3] at H
  exact absurd H (by simp)

/-! ### spec_l01PickInt: function 149 -/
def spec_l01PickInt.f (s0_0 : List Int) (s0_1 : Int) (s0_2 : Int) (l1 : List Int) : Option (Int × Int × Int) := (spec_l01Below.f s0_0 s0_1 s0_2 (l1.length : Int)).bind fun bt292 => (if 0 ≤ bt292.1 then (if bt292.1 < (l1.length : Int) then (some (rd l1 bt292.1, bt292.2.1, bt292.2.2)) else (none)) else (none))
set_option maxHeartbeats 8000000 in
set_option maxRecDepth 100000 in
theorem spec_l01PickInt.calls (g : Nat) (s0_0 : List Int) (s0_1 : Int) (s0_2 : Int) (A1 : Option Addr) (c1 : Nat) (l1 : List Int) (r1 : Int) (r2 : Int) (r3 : Int) (w0 w : World) (hI : IsS157 w0 w g s0_0 s0_1 s0_2) (hB : Below w0.heap.size w0 w) (hr1 : Kd.C (Kd.int .i64) w A1 l1.length l1) (hc1 : l1.length ≤ c1) (hf1 : ∀ ad, A1 = some ad → 0 < l1.length → ad.block ≠ g) (h : spec_l01PickInt.f s0_0 s0_1 s0_2 l1 = some (r1, r2, r3)) :
  Calls Try.prog 149 #[.pointer (some ⟨g, 0, none⟩), .slice A1 l1.length c1] w fun e w' => e = .returned (.int .i64 r1) ∧ IsS157 w0 w' g s0_0 r2 r3 ∧ Below w0.heap.size w0 w' ∧ KeepBut w w' g none := by
 have HR1 := Aside0.mk hr1
 have HC1 := Aside0.mk hc1
 clear hr1 hc1
 have HI0 := Aside0.mk hI
 have HK := Aside0.mk (KeepBut.refl w g none)
 have HL := Aside0.mk hB.size
 clear hI
 have HW0 := Aside0.mk hB.size
 have HB := Aside0.mk hB
 clear hB
 have H : ((spec_l01Below.f s0_0 s0_1 s0_2 (l1.length : Int)).bind fun bt292 => (if 0 ≤ bt292.1 then (if bt292.1 < (l1.length : Int) then (some (rd l1 bt292.1, bt292.2.1, bt292.2.2)) else (none)) else (none))) = some (r1, r2, r3) := h
 clear h
 replace H := Option.bind_eq_some_iff.mp H
 obtain ⟨⟨t292, t293, t294⟩, A30, H⟩ := H
 replace H : (if 0 ≤ t292 then (if t292 < (l1.length : Int) then (some (rd l1 t292, t293, t294)) else (none)) else (none)) = some (r1, r2, r3) := H
 have A3 := Aside0.mk A30
 clear A30
 by_cases c4 : 0 ≤ t292
 ·rw [if_pos c4] at H
  have c4b0 : decide (0 ≤ t292) = true := decide_eq_true c4
  clear c4
  by_cases c5 : t292 < (l1.length : Int)
  ·rw [if_pos c5] at H
   have c5b0 : decide (t292 < (l1.length : Int)) = true := decide_eq_true c5
   clear c5
   simp only [Option.some.injEq, Prod.mk.injEq] at H
   obtain ⟨rfl, rfl, rfl⟩ := H
   go_enter Try.func149, Try.ntmps149
   go_wp2_with (first | ((with_reducible refine gate_callee (f := 145) rfl ?_); refine goesL_ (some 9) rfl rfl Try.func145 (by kernel_rfl) rfl #[.pointer (some ⟨g, 0, none⟩), .int .i64 (l1.length : Int)] rfl qm ?_; (with_reducible refine (spec_l01Below.calls g s0_0 s0_1 s0_2 (l1.length : Int) t292 t293 t294 w0 _ ?side1 ?side2 A3.out).mono ?_); (case side1 => repeat (first | (with_reducible first | exact HI0.out | apply IsS157.alloc | apply IsS157.drewN | apply IsS157.drew | apply IsS157.set_1 | apply IsS157.set_2) | exact HI0.out)); (case side2 => repeat (first | (with_reducible first | exact HB.out | apply below_alloc | apply pw_below_drewN | apply below_drew1 | refine below_set ?_ (IsS157.ge HI0.out)) | exact HB.out)); rintro e w6 ⟨rfl, hi, hb, hk⟩; refine ⟨_, rfl, ?_⟩; have n0_ := Aside0.mk (KeepBut.trans (qh HK.out) hk (.inl rfl)); have n1_ := Aside0.mk (hb); have n2_ := Aside0.mk (hi); clear HK; clear HB; clear HI0; have HK := n0_; have HB := n1_; have HI0 := n2_; clear n0_ n1_ n2_; (try clear hb); (try clear hb2); (try clear hk); (try clear hi); have p295 : 0 ≤ (t292 : Int) := qo; have q295 : t292 < (l1.length : Int) := qo; obtain ⟨ad295, e295, hx295_0⟩ := Kd.at_int HR1.out t292 p295 q295; cases e295; replace hx295_0 := keep_cell HK.out hx295_0 (by first | (rw [add_block]; exact hf1 _ rfl (by omega)) | exact hf1 _ rfl (by omega) | exact hf1 ad295 rfl (by omega)); replace p295 := eq_true p295; replace q295 := eq_true q295))
   go_ret
   exact ⟨qe, by repeat (first | (with_reducible first | exact HI0.out | apply IsS157.alloc | apply IsS157.drewN | apply IsS157.drew | apply IsS157.set_1 | apply IsS157.set_2) | exact HI0.out), qb1 HB.out (IsS157.ge HI0.out), qh HK.out⟩
  ·rw [if_neg c5] at H
   exact absurd H (by simp)
 ·rw [if_neg c4] at H
  exact absurd H (by simp)

end Go.Proofs.Ytdnbpapolckklaa.PFnBlocks
