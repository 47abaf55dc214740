-- Written by a program of this session (a changed copy of the kit's print: wip/print2). Lean checks it.
import Derived.Test.YtdnbpapolckklaaPFnExactSameDiskx0
import Derived.Test.YtdnbpapolckklaaPFnExactSameDiskx2
import Derived.Test.YtdnbpapolckklaaPFnExactSameDiskx3
import Derived.Test.YtdnbpapolckklaaPFnExactSameDiskx6
import Derived.Test.YtdnbpapolckklaaPFnExactSameDiskx8
import Derived.Test.YtdnbpapolckklaaPFnExactSameDiskx10
namespace Go.Proofs.Ytdnbpapolckklaa.PFnExactSameDisk
open Go.RowKit Go.Proofs.YtdnbpapolckklaaW.PrintWords Go.Proofs.YtdnbpapolckklaaW.PrintLast Go.Proofs.YtdnbpapolckklaaW.PrintMore
attribute [local go_sem] max2_int min2_int max_two min_two max_three min_three max_four min_four   -- for this text's walks alone
attribute [local go_sem] Go.Proofs.Ytdnbpapolckklaa.Pad.isSome_setCell
set_option linter.unusedVariables false
set_option linter.unusedSimpArgs false

/-! ### laws_FnExactSameDisk: function 11 -/
def laws_FnExactSameDisk.f (k : Nat) (l0_0 : List Bool) (l0_1 : List Bool) (l0_2 : List (S142)) (l0_3 : List (S54)) (l1_0 : List Bool) (l1_1 : List Bool) (l1_2 : List (S142)) (l1_3 : List (S54)) : Option (Bool) := (laws_szDisk.f k l0_0 l0_1 l0_2 l0_3 1048576).bind fun t275 => (if t275 < 0 then (some true) else ((laws_szDisk.f k l1_0 l1_1 l1_2 l1_3 t275).bind fun t276 => (if t276 < 0 then (some true) else ((laws_toDisk.f k l0_0 l0_1 l0_2 l0_3).bind fun bt277 => ((laws_toDisk.f k l1_0 l1_1 l1_2 l1_3).bind fun bt289 => ((spec_SameDisk.f k bt277.1 bt277.2.1 bt277.2.2.1 bt277.2.2.2 bt289.1 bt289.2.1 bt289.2.2.1 bt289.2.2.2).bind fun t301 => ((laws_toDisk.f k l0_0 l0_1 l0_2 l0_3).bind fun bt302 => ((laws_toDisk.f k l1_0 l1_1 l1_2 l1_3).bind fun bt315 => ((impl_SameDisk.f k bt302.1 bt302.2.1 bt302.2.2.1 bt302.2.2.2 bt315.1 bt315.2.1 bt315.2.2.1 bt315.2.2.2).bind fun t328 => (if (t328 != t301) = true then (some false) else ((laws_toDisk.f k l0_0 l0_1 l0_2 l0_3).bind fun bt329 => ((laws_eqDisk.f k bt302.1 bt302.2.1 bt302.2.2.1 bt302.2.2.2 bt329.1 bt329.2.1 bt329.2.2.1 bt329.2.2.2).bind fun t341 => (if t341 = true then ((laws_toDisk.f k l1_0 l1_1 l1_2 l1_3).bind fun bt342 => ((laws_eqDisk.f k bt315.1 bt315.2.1 bt315.2.2.1 bt315.2.2.2 bt342.1 bt342.2.1 bt342.2.2.1 bt342.2.2.2).bind fun t354 => (if t354 = true then (some true) else (some false)))) else (some false))))))))))))))
theorem laws_FnExactSameDisk.mono : ∀ a0 a1 a2 a3 a4 a5 a6 a7 k, LeO (laws_FnExactSameDisk.f k a0 a1 a2 a3 a4 a5 a6 a7) (laws_FnExactSameDisk.f (k + 1) a0 a1 a2 a3 a4 a5 a6 a7) := by
 intro a0 a1 a2 a3 a4 a5 a6 a7 k
 unfold laws_FnExactSameDisk.f
 repeat' first
   | (with_reducible exact impl_SameDisk.mono _ _ _ _ _ _ _ _ _)
   | (with_reducible exact laws_eqDisk.mono _ _ _ _ _ _ _ _ _)
   | (with_reducible exact laws_szDisk.mono _ _ _ _ _ _)
   | (with_reducible exact laws_toDisk.mono _ _ _ _ _)
   | (with_reducible exact spec_SameDisk.mono _ _ _ _ _ _ _ _ _)
   | with_reducible first | exact LeO.refl _ | exact LeO.none _ | refine LeO.ite ?_ ?_ | refine LeO.bind ?_ (fun _ => ?_)
   | exact impl_SameDisk.mono _ _ _ _ _ _ _ _ _
   | exact laws_eqDisk.mono _ _ _ _ _ _ _ _ _
   | exact laws_szDisk.mono _ _ _ _ _ _
   | exact laws_toDisk.mono _ _ _ _ _
   | exact spec_SameDisk.mono _ _ _ _ _ _ _ _ _
   | exact LeO.none _
   | refine LeO.ite ?_ ?_
   | refine LeO.bind ?_ (fun _ => ?_)
set_option maxHeartbeats 8000000 in
set_option maxRecDepth 100000 in
theorem laws_FnExactSameDisk.calls (k : Nat) (A0_0 : Option Addr) (c0_0 : Nat) (l0_0 : List Bool) (A0_1 : Option Addr) (c0_1 : Nat) (l0_1 : List Bool) (A0_2 : Option Addr) (c0_2 : Nat) (l0_2 : List (S142)) (A0_3 : Option Addr) (c0_3 : Nat) (l0_3 : List (S54)) (A1_0 : Option Addr) (c1_0 : Nat) (l1_0 : List Bool) (A1_1 : Option Addr) (c1_1 : Nat) (l1_1 : List Bool) (A1_2 : Option Addr) (c1_2 : Nat) (l1_2 : List (S142)) (A1_3 : Option Addr) (c1_3 : Nat) (l1_3 : List (S54)) (r : Bool) (w : World) (hr0_0 : Kd.C Kd.bool w A0_0 l0_0.length l0_0) (hc0_0 : l0_0.length ≤ c0_0) (hr0_1 : Kd.C Kd.bool w A0_1 l0_1.length l0_1) (hc0_1 : l0_1.length ≤ c0_1) (hr0_2 : Kd.C k142 w A0_2 l0_2.length l0_2) (hc0_2 : l0_2.length ≤ c0_2) (hr0_3 : Kd.C k54 w A0_3 l0_3.length l0_3) (hc0_3 : l0_3.length ≤ c0_3) (hr1_0 : Kd.C Kd.bool w A1_0 l1_0.length l1_0) (hc1_0 : l1_0.length ≤ c1_0) (hr1_1 : Kd.C Kd.bool w A1_1 l1_1.length l1_1) (hc1_1 : l1_1.length ≤ c1_1) (hr1_2 : Kd.C k142 w A1_2 l1_2.length l1_2) (hc1_2 : l1_2.length ≤ c1_2) (hr1_3 : Kd.C k54 w A1_3 l1_3.length l1_3) (hc1_3 : l1_3.length ≤ c1_3) (h : laws_FnExactSameDisk.f k l0_0 l0_1 l0_2 l0_3 l1_0 l1_1 l1_2 l1_3 = some r) (hr_ : Aside0 (r = true)) :
  Calls Try.prog 11 #[.agg #[.slice A0_0 l0_0.length c0_0, .slice A0_1 l0_1.length c0_1, .slice A0_2 l0_2.length c0_2, .slice A0_3 l0_3.length c0_3], .agg #[.slice A1_0 l1_0.length c1_0, .slice A1_1 l1_1.length c1_1, .slice A1_2 l1_2.length c1_2, .slice A1_3 l1_3.length c1_3]] w fun e w' => e = .returned (.bool r) ∧ Below w.heap.size w w' := by
 have hu28 := Try.underlying28
 have hu39 := Try.underlying39
 have HR0_0 := Aside0.mk hr0_0
 have HC0_0 := Aside0.mk hc0_0
 clear hr0_0 hc0_0
 have HR0_1 := Aside0.mk hr0_1
 have HC0_1 := Aside0.mk hc0_1
 clear hr0_1 hc0_1
 have HR0_2 := Aside0.mk hr0_2
 have HC0_2 := Aside0.mk hc0_2
 clear hr0_2 hc0_2
 have HR0_3 := Aside0.mk hr0_3
 have HC0_3 := Aside0.mk hc0_3
 clear hr0_3 hc0_3
 have HR1_0 := Aside0.mk hr1_0
 have HC1_0 := Aside0.mk hc1_0
 clear hr1_0 hc1_0
 have HR1_1 := Aside0.mk hr1_1
 have HC1_1 := Aside0.mk hc1_1
 clear hr1_1 hc1_1
 have HR1_2 := Aside0.mk hr1_2
 have HC1_2 := Aside0.mk hc1_2
 clear hr1_2 hc1_2
 have HR1_3 := Aside0.mk hr1_3
 have HC1_3 := Aside0.mk hc1_3
 clear hr1_3 hc1_3
 have HB := Aside0.mk (Below.refl w.heap.size w)
 have H : ((laws_szDisk.f k l0_0 l0_1 l0_2 l0_3 1048576).bind fun t275 => (if t275 < 0 then (some true) else ((laws_szDisk.f k l1_0 l1_1 l1_2 l1_3 t275).bind fun t276 => (if t276 < 0 then (some true) else ((laws_toDisk.f k l0_0 l0_1 l0_2 l0_3).bind fun bt277 => ((laws_toDisk.f k l1_0 l1_1 l1_2 l1_3).bind fun bt289 => ((spec_SameDisk.f k bt277.1 bt277.2.1 bt277.2.2.1 bt277.2.2.2 bt289.1 bt289.2.1 bt289.2.2.1 bt289.2.2.2).bind fun t301 => ((laws_toDisk.f k l0_0 l0_1 l0_2 l0_3).bind fun bt302 => ((laws_toDisk.f k l1_0 l1_1 l1_2 l1_3).bind fun bt315 => ((impl_SameDisk.f k bt302.1 bt302.2.1 bt302.2.2.1 bt302.2.2.2 bt315.1 bt315.2.1 bt315.2.2.1 bt315.2.2.2).bind fun t328 => (if (t328 != t301) = true then (some false) else ((laws_toDisk.f k l0_0 l0_1 l0_2 l0_3).bind fun bt329 => ((laws_eqDisk.f k bt302.1 bt302.2.1 bt302.2.2.1 bt302.2.2.2 bt329.1 bt329.2.1 bt329.2.2.1 bt329.2.2.2).bind fun t341 => (if t341 = true then ((laws_toDisk.f k l1_0 l1_1 l1_2 l1_3).bind fun bt342 => ((laws_eqDisk.f k bt315.1 bt315.2.1 bt315.2.2.1 bt315.2.2.2 bt342.1 bt342.2.1 bt342.2.2.1 bt342.2.2.2).bind fun t354 => (if t354 = true then (some true) else (some false)))) else (some false))))))))))))))) = some r := h
 clear h
 replace H := Option.bind_eq_some_iff.mp H
 obtain ⟨t275, A30, H⟩ := H
 replace H : (if t275 < 0 then (some true) else ((laws_szDisk.f k l1_0 l1_1 l1_2 l1_3 t275).bind fun t276 => (if t276 < 0 then (some true) else ((laws_toDisk.f k l0_0 l0_1 l0_2 l0_3).bind fun bt277 => ((laws_toDisk.f k l1_0 l1_1 l1_2 l1_3).bind fun bt289 => ((spec_SameDisk.f k bt277.1 bt277.2.1 bt277.2.2.1 bt277.2.2.2 bt289.1 bt289.2.1 bt289.2.2.1 bt289.2.2.2).bind fun t301 => ((laws_toDisk.f k l0_0 l0_1 l0_2 l0_3).bind fun bt302 => ((laws_toDisk.f k l1_0 l1_1 l1_2 l1_3).bind fun bt315 => ((impl_SameDisk.f k bt302.1 bt302.2.1 bt302.2.2.1 bt302.2.2.2 bt315.1 bt315.2.1 bt315.2.2.1 bt315.2.2.2).bind fun t328 => (if (t328 != t301) = true then (some false) else ((laws_toDisk.f k l0_0 l0_1 l0_2 l0_3).bind fun bt329 => ((laws_eqDisk.f k bt302.1 bt302.2.1 bt302.2.2.1 bt302.2.2.2 bt329.1 bt329.2.1 bt329.2.2.1 bt329.2.2.2).bind fun t341 => (if t341 = true then ((laws_toDisk.f k l1_0 l1_1 l1_2 l1_3).bind fun bt342 => ((laws_eqDisk.f k bt315.1 bt315.2.1 bt315.2.2.1 bt315.2.2.2 bt342.1 bt342.2.1 bt342.2.2.1 bt342.2.2.2).bind fun t354 => (if t354 = true then (some true) else (some false)))) else (some false)))))))))))))) = some r := H
 have A3 := Aside0.mk A30
 clear A30
 by_cases c4 : t275 < 0
 ·rw [if_pos c4] at H
  have c4b0 : decide (t275 < 0) = true := decide_eq_true c4
  clear c4
  obtain rfl := Option.some.inj H
  go_enter Try.func11, Try.ntmps11
  go_wp2_with (first | ((with_reducible refine gate_dst (N := 2) rfl ?_); refine box_event ?hg (N := 2) ?hd (cs := #[.slice A0_0 l0_0.length c0_0, .slice A0_1 l0_1.length c0_1, .slice A0_2 l0_2.length c0_2, .slice A0_3 l0_3.length c0_3]) (t := 28) ?hr ?_; (case hd => rfl); (case hg => rfl); (case hr => first | (go_simp; done) | (go_simp; rfl)); intro gb273 hg w5 hbox hb; have n0_ := Aside0.mk (below_step (qb HB.out) hb); have n1_ := Aside0.mk (hbox); have n2_ := Aside0.mk ((by rw [hg]; exact (below_size (qb HB.out)) : w.heap.size ≤ gb273)); have n3_ := Aside0.mk ((by rw [hg]; exact (below_size (qb HB.out)) : w.heap.size ≤ gb273)); clear HB; have HB := n0_; have BK273 := n1_; have GW273 := n2_; have GE273 := n3_; clear n0_ n1_ n2_ n3_; clear hb hbox hg) | ((with_reducible refine gate_dst (N := 3) rfl ?_); refine box_event ?hg (N := 3) ?hd (cs := #[.slice A1_0 l1_0.length c1_0, .slice A1_1 l1_1.length c1_1, .slice A1_2 l1_2.length c1_2, .slice A1_3 l1_3.length c1_3]) (t := 28) ?hr ?_; (case hd => rfl); (case hg => rfl); (case hr => first | (go_simp; done) | (go_simp; rfl)); intro gb274 hg w6 hbox hb; have n0_ := Aside0.mk (blk_below (g := gb273) (o := .cells #[.slice A0_0 l0_0.length c0_0, .slice A0_1 l0_1.length c0_1, .slice A0_2 l0_2.length c0_2, .slice A0_3 l0_3.length c0_3] 28 (0, 0)) (qk BK273.out) hb); have n1_ := Aside0.mk (below_step (qb1 HB.out GE273.out) hb); have n2_ := Aside0.mk (hbox); have n3_ := Aside0.mk ((by rw [hg]; exact (below_size (qb1 HB.out GE273.out)) : w.heap.size ≤ gb274)); have n4_ := Aside0.mk ((by rw [hg]; exact (below_size (qb1 HB.out GE273.out)) : w.heap.size ≤ gb274)); have n5_ := Aside0.mk ((by rw [hg]; exact Nat.ne_of_lt (blk_lt (g := gb273) (o := .cells #[.slice A0_0 l0_0.length c0_0, .slice A0_1 l0_1.length c0_1, .slice A0_2 l0_2.length c0_2, .slice A0_3 l0_3.length c0_3] 28 (0, 0)) (qk BK273.out)) : gb273 ≠ gb274)); have n6_ := Aside0.mk ((by rw [hg]; exact Nat.ne_of_gt (blk_lt (g := gb273) (o := .cells #[.slice A0_0 l0_0.length c0_0, .slice A0_1 l0_1.length c0_1, .slice A0_2 l0_2.length c0_2, .slice A0_3 l0_3.length c0_3] 28 (0, 0)) (qk BK273.out)) : gb274 ≠ gb273)); clear BK273; clear HB; have BK273 := n0_; have HB := n1_; have BK274 := n2_; have GW274 := n3_; have GE274 := n4_; have NB273_274 := n5_; have NB274_273 := n6_; clear n0_ n1_ n2_ n3_ n4_ n5_ n6_; clear hb hbox hg; have hnb7 := NB273_274.out; have hnc7 := NB274_273.out; have hcz8_0 : w6.cell? ⟨gb273, 0, none⟩ = some (.slice A0_0 l0_0.length c0_0) := (blk_cell BK273.out 0).trans rfl; have hcz8_1 : w6.cell? ⟨gb273, 1, none⟩ = some (.slice A0_1 l0_1.length c0_1) := (blk_cell BK273.out 1).trans rfl; have hcz8_2 : w6.cell? ⟨gb273, 2, none⟩ = some (.slice A0_2 l0_2.length c0_2) := (blk_cell BK273.out 2).trans rfl; have hcz8_3 : w6.cell? ⟨gb273, 3, none⟩ = some (.slice A0_3 l0_3.length c0_3) := (blk_cell BK273.out 3).trans rfl; have hfz8_0 := blk_frozen BK273.out 0; have hfz8_1 := blk_frozen BK273.out 1; have hfz8_2 := blk_frozen BK273.out 2; have hfz8_3 := blk_frozen BK273.out 3) | ((with_reducible refine gate_callee (f := 14) rfl ?_); refine goesL_ (some 12) rfl rfl Try.func14 (by kernel_rfl) rfl #[.agg #[.slice A0_0 l0_0.length c0_0, .slice A0_1 l0_1.length c0_1, .slice A0_2 l0_2.length c0_2, .slice A0_3 l0_3.length c0_3], .int .i64 1048576] rfl qm ?_; (with_reducible refine (laws_szDisk.calls k _ _ l0_0 _ _ l0_1 _ _ l0_2 _ _ l0_3 1048576 t275 _ ?side1 ?side2 ?side3 ?side4 ?side5 ?side6 ?side7 ?side8 A3.out).mono ?_); (case side1 => repeat (first | exact (Kd.C_below HR0_0.out HB.out) | (with_reducible refine Kd.C_alloc ?_ _) | (with_reducible refine Kd.C_drewN ?_ _) | (with_reducible refine Kd.C_drew ?_))); (case side2 => exact HC0_0.out); (case side3 => repeat (first | exact (Kd.C_below HR0_1.out HB.out) | (with_reducible refine Kd.C_alloc ?_ _) | (with_reducible refine Kd.C_drewN ?_ _) | (with_reducible refine Kd.C_drew ?_))); (case side4 => exact HC0_1.out); (case side5 => repeat (first | exact (Kd.C_below HR0_2.out HB.out) | (with_reducible refine Kd.C_alloc ?_ _) | (with_reducible refine Kd.C_drewN ?_ _) | (with_reducible refine Kd.C_drew ?_))); (case side6 => exact HC0_2.out); (case side7 => repeat (first | exact (Kd.C_below HR0_3.out HB.out) | (with_reducible refine Kd.C_alloc ?_ _) | (with_reducible refine Kd.C_drewN ?_ _) | (with_reducible refine Kd.C_drew ?_))); (case side8 => exact HC0_3.out); rintro e w9 ⟨rfl, hb⟩; refine ⟨_, rfl, ?_⟩; have n0_ := Aside0.mk (blk_below (g := gb273) (o := .cells #[.slice A0_0 l0_0.length c0_0, .slice A0_1 l0_1.length c0_1, .slice A0_2 l0_2.length c0_2, .slice A0_3 l0_3.length c0_3] 28 (0, 0)) (qk BK273.out) hb); have n1_ := Aside0.mk (blk_below (g := gb274) (o := .cells #[.slice A1_0 l1_0.length c1_0, .slice A1_1 l1_1.length c1_1, .slice A1_2 l1_2.length c1_2, .slice A1_3 l1_3.length c1_3] 28 (0, 0)) (qk BK274.out) hb); have n2_ := Aside0.mk (below_step (qb2 HB.out GE273.out GE274.out) hb); clear BK273; clear BK274; clear HB; have BK273 := n0_; have BK274 := n1_; have HB := n2_; clear n0_ n1_ n2_; (try clear hb); (try clear hb2); (try clear hk); (try clear hi)))
  go_ret
  exact ⟨qe, qb2 HB.out GE273.out GE274.out⟩
 ·rw [if_neg c4] at H
  have c4b0 : decide (t275 < 0) = false := decide_eq_false c4
  clear c4
  replace H := Option.bind_eq_some_iff.mp H
  obtain ⟨t276, A100, H⟩ := H
  replace H : (if t276 < 0 then (some true) else ((laws_toDisk.f k l0_0 l0_1 l0_2 l0_3).bind fun bt277 => ((laws_toDisk.f k l1_0 l1_1 l1_2 l1_3).bind fun bt289 => ((spec_SameDisk.f k bt277.1 bt277.2.1 bt277.2.2.1 bt277.2.2.2 bt289.1 bt289.2.1 bt289.2.2.1 bt289.2.2.2).bind fun t301 => ((laws_toDisk.f k l0_0 l0_1 l0_2 l0_3).bind fun bt302 => ((laws_toDisk.f k l1_0 l1_1 l1_2 l1_3).bind fun bt315 => ((impl_SameDisk.f k bt302.1 bt302.2.1 bt302.2.2.1 bt302.2.2.2 bt315.1 bt315.2.1 bt315.2.2.1 bt315.2.2.2).bind fun t328 => (if (t328 != t301) = true then (some false) else ((laws_toDisk.f k l0_0 l0_1 l0_2 l0_3).bind fun bt329 => ((laws_eqDisk.f k bt302.1 bt302.2.1 bt302.2.2.1 bt302.2.2.2 bt329.1 bt329.2.1 bt329.2.2.1 bt329.2.2.2).bind fun t341 => (if t341 = true then ((laws_toDisk.f k l1_0 l1_1 l1_2 l1_3).bind fun bt342 => ((laws_eqDisk.f k bt315.1 bt315.2.1 bt315.2.2.1 bt315.2.2.2 bt342.1 bt342.2.1 bt342.2.2.1 bt342.2.2.2).bind fun t354 => (if t354 = true then (some true) else (some false)))) else (some false)))))))))))) = some r := H
  have A10 := Aside0.mk A100
  clear A100
  by_cases c11 : t276 < 0
  ·rw [if_pos c11] at H
   have c11b0 : decide (t276 < 0) = true := decide_eq_true c11
   clear c11
   obtain rfl := Option.some.inj H
   go_enter Try.func11, Try.ntmps11
   go_wp2_with (first | ((with_reducible refine gate_dst (N := 2) rfl ?_); refine box_event ?hg (N := 2) ?hd (cs := #[.slice A0_0 l0_0.length c0_0, .slice A0_1 l0_1.length c0_1, .slice A0_2 l0_2.length c0_2, .slice A0_3 l0_3.length c0_3]) (t := 28) ?hr ?_; (case hd => rfl); (case hg => rfl); (case hr => first | (go_simp; done) | (go_simp; rfl)); intro gb273 hg w12 hbox hb; have n0_ := Aside0.mk (below_step (qb HB.out) hb); have n1_ := Aside0.mk (hbox); have n2_ := Aside0.mk ((by rw [hg]; exact (below_size (qb HB.out)) : w.heap.size ≤ gb273)); have n3_ := Aside0.mk ((by rw [hg]; exact (below_size (qb HB.out)) : w.heap.size ≤ gb273)); clear HB; have HB := n0_; have BK273 := n1_; have GW273 := n2_; have GE273 := n3_; clear n0_ n1_ n2_ n3_; clear hb hbox hg) | ((with_reducible refine gate_dst (N := 3) rfl ?_); refine box_event ?hg (N := 3) ?hd (cs := #[.slice A1_0 l1_0.length c1_0, .slice A1_1 l1_1.length c1_1, .slice A1_2 l1_2.length c1_2, .slice A1_3 l1_3.length c1_3]) (t := 28) ?hr ?_; (case hd => rfl); (case hg => rfl); (case hr => first | (go_simp; done) | (go_simp; rfl)); intro gb274 hg w13 hbox hb; have n0_ := Aside0.mk (blk_below (g := gb273) (o := .cells #[.slice A0_0 l0_0.length c0_0, .slice A0_1 l0_1.length c0_1, .slice A0_2 l0_2.length c0_2, .slice A0_3 l0_3.length c0_3] 28 (0, 0)) (qk BK273.out) hb); have n1_ := Aside0.mk (below_step (qb1 HB.out GE273.out) hb); have n2_ := Aside0.mk (hbox); have n3_ := Aside0.mk ((by rw [hg]; exact (below_size (qb1 HB.out GE273.out)) : w.heap.size ≤ gb274)); have n4_ := Aside0.mk ((by rw [hg]; exact (below_size (qb1 HB.out GE273.out)) : w.heap.size ≤ gb274)); have n5_ := Aside0.mk ((by rw [hg]; exact Nat.ne_of_lt (blk_lt (g := gb273) (o := .cells #[.slice A0_0 l0_0.length c0_0, .slice A0_1 l0_1.length c0_1, .slice A0_2 l0_2.length c0_2, .slice A0_3 l0_3.length c0_3] 28 (0, 0)) (qk BK273.out)) : gb273 ≠ gb274)); have n6_ := Aside0.mk ((by rw [hg]; exact Nat.ne_of_gt (blk_lt (g := gb273) (o := .cells #[.slice A0_0 l0_0.length c0_0, .slice A0_1 l0_1.length c0_1, .slice A0_2 l0_2.length c0_2, .slice A0_3 l0_3.length c0_3] 28 (0, 0)) (qk BK273.out)) : gb274 ≠ gb273)); clear BK273; clear HB; have BK273 := n0_; have HB := n1_; have BK274 := n2_; have GW274 := n3_; have GE274 := n4_; have NB273_274 := n5_; have NB274_273 := n6_; clear n0_ n1_ n2_ n3_ n4_ n5_ n6_; clear hb hbox hg; have hnb14 := NB273_274.out; have hnc14 := NB274_273.out; have hcz15_0 : w13.cell? ⟨gb273, 0, none⟩ = some (.slice A0_0 l0_0.length c0_0) := (blk_cell BK273.out 0).trans rfl; have hcz15_1 : w13.cell? ⟨gb273, 1, none⟩ = some (.slice A0_1 l0_1.length c0_1) := (blk_cell BK273.out 1).trans rfl; have hcz15_2 : w13.cell? ⟨gb273, 2, none⟩ = some (.slice A0_2 l0_2.length c0_2) := (blk_cell BK273.out 2).trans rfl; have hcz15_3 : w13.cell? ⟨gb273, 3, none⟩ = some (.slice A0_3 l0_3.length c0_3) := (blk_cell BK273.out 3).trans rfl; have hfz15_0 := blk_frozen BK273.out 0; have hfz15_1 := blk_frozen BK273.out 1; have hfz15_2 := blk_frozen BK273.out 2; have hfz15_3 := blk_frozen BK273.out 3) | ((with_reducible refine gate_callee (f := 14) rfl ?_); refine goesL_ (some 12) rfl rfl Try.func14 (by kernel_rfl) rfl #[.agg #[.slice A0_0 l0_0.length c0_0, .slice A0_1 l0_1.length c0_1, .slice A0_2 l0_2.length c0_2, .slice A0_3 l0_3.length c0_3], .int .i64 1048576] rfl qm ?_; (with_reducible refine (laws_szDisk.calls k _ _ l0_0 _ _ l0_1 _ _ l0_2 _ _ l0_3 1048576 t275 _ ?side1 ?side2 ?side3 ?side4 ?side5 ?side6 ?side7 ?side8 A3.out).mono ?_); (case side1 => repeat (first | exact (Kd.C_below HR0_0.out HB.out) | (with_reducible refine Kd.C_alloc ?_ _) | (with_reducible refine Kd.C_drewN ?_ _) | (with_reducible refine Kd.C_drew ?_))); (case side2 => exact HC0_0.out); (case side3 => repeat (first | exact (Kd.C_below HR0_1.out HB.out) | (with_reducible refine Kd.C_alloc ?_ _) | (with_reducible refine Kd.C_drewN ?_ _) | (with_reducible refine Kd.C_drew ?_))); (case side4 => exact HC0_1.out); (case side5 => repeat (first | exact (Kd.C_below HR0_2.out HB.out) | (with_reducible refine Kd.C_alloc ?_ _) | (with_reducible refine Kd.C_drewN ?_ _) | (with_reducible refine Kd.C_drew ?_))); (case side6 => exact HC0_2.out); (case side7 => repeat (first | exact (Kd.C_below HR0_3.out HB.out) | (with_reducible refine Kd.C_alloc ?_ _) | (with_reducible refine Kd.C_drewN ?_ _) | (with_reducible refine Kd.C_drew ?_))); (case side8 => exact HC0_3.out); rintro e w16 ⟨rfl, hb⟩; refine ⟨_, rfl, ?_⟩; have n0_ := Aside0.mk (blk_below (g := gb273) (o := .cells #[.slice A0_0 l0_0.length c0_0, .slice A0_1 l0_1.length c0_1, .slice A0_2 l0_2.length c0_2, .slice A0_3 l0_3.length c0_3] 28 (0, 0)) (qk BK273.out) hb); have n1_ := Aside0.mk (blk_below (g := gb274) (o := .cells #[.slice A1_0 l1_0.length c1_0, .slice A1_1 l1_1.length c1_1, .slice A1_2 l1_2.length c1_2, .slice A1_3 l1_3.length c1_3] 28 (0, 0)) (qk BK274.out) hb); have n2_ := Aside0.mk (below_step (qb2 HB.out GE273.out GE274.out) hb); clear BK273; clear BK274; clear HB; have BK273 := n0_; have BK274 := n1_; have HB := n2_; clear n0_ n1_ n2_; (try clear hb); (try clear hb2); (try clear hk); (try clear hi); have hcz17_0 : w16.cell? ⟨gb274, 0, none⟩ = some (.slice A1_0 l1_0.length c1_0) := (blk_cell BK274.out 0).trans rfl; have hcz17_1 : w16.cell? ⟨gb274, 1, none⟩ = some (.slice A1_1 l1_1.length c1_1) := (blk_cell BK274.out 1).trans rfl; have hcz17_2 : w16.cell? ⟨gb274, 2, none⟩ = some (.slice A1_2 l1_2.length c1_2) := (blk_cell BK274.out 2).trans rfl; have hcz17_3 : w16.cell? ⟨gb274, 3, none⟩ = some (.slice A1_3 l1_3.length c1_3) := (blk_cell BK274.out 3).trans rfl; have hfz17_0 := blk_frozen BK274.out 0; have hfz17_1 := blk_frozen BK274.out 1; have hfz17_2 := blk_frozen BK274.out 2; have hfz17_3 := blk_frozen BK274.out 3) | ((with_reducible refine gate_callee (f := 14) rfl ?_); refine goesL_ (some 17) rfl rfl Try.func14 (by kernel_rfl) rfl #[.agg #[.slice A1_0 l1_0.length c1_0, .slice A1_1 l1_1.length c1_1, .slice A1_2 l1_2.length c1_2, .slice A1_3 l1_3.length c1_3], .int .i64 t275] rfl qm ?_; (with_reducible refine (laws_szDisk.calls k _ _ l1_0 _ _ l1_1 _ _ l1_2 _ _ l1_3 t275 t276 _ ?side1 ?side2 ?side3 ?side4 ?side5 ?side6 ?side7 ?side8 A10.out).mono ?_); (case side1 => repeat (first | exact (Kd.C_below HR1_0.out HB.out) | (with_reducible refine Kd.C_alloc ?_ _) | (with_reducible refine Kd.C_drewN ?_ _) | (with_reducible refine Kd.C_drew ?_))); (case side2 => exact HC1_0.out); (case side3 => repeat (first | exact (Kd.C_below HR1_1.out HB.out) | (with_reducible refine Kd.C_alloc ?_ _) | (with_reducible refine Kd.C_drewN ?_ _) | (with_reducible refine Kd.C_drew ?_))); (case side4 => exact HC1_1.out); (case side5 => repeat (first | exact (Kd.C_below HR1_2.out HB.out) | (with_reducible refine Kd.C_alloc ?_ _) | (with_reducible refine Kd.C_drewN ?_ _) | (with_reducible refine Kd.C_drew ?_))); (case side6 => exact HC1_2.out); (case side7 => repeat (first | exact (Kd.C_below HR1_3.out HB.out) | (with_reducible refine Kd.C_alloc ?_ _) | (with_reducible refine Kd.C_drewN ?_ _) | (with_reducible refine Kd.C_drew ?_))); (case side8 => exact HC1_3.out); rintro e w18 ⟨rfl, hb⟩; refine ⟨_, rfl, ?_⟩; have n0_ := Aside0.mk (blk_below (g := gb273) (o := .cells #[.slice A0_0 l0_0.length c0_0, .slice A0_1 l0_1.length c0_1, .slice A0_2 l0_2.length c0_2, .slice A0_3 l0_3.length c0_3] 28 (0, 0)) (qk BK273.out) hb); have n1_ := Aside0.mk (blk_below (g := gb274) (o := .cells #[.slice A1_0 l1_0.length c1_0, .slice A1_1 l1_1.length c1_1, .slice A1_2 l1_2.length c1_2, .slice A1_3 l1_3.length c1_3] 28 (0, 0)) (qk BK274.out) hb); have n2_ := Aside0.mk (below_step (qb2 HB.out GE273.out GE274.out) hb); clear BK273; clear BK274; clear HB; have BK273 := n0_; have BK274 := n1_; have HB := n2_; clear n0_ n1_ n2_; (try clear hb); (try clear hb2); (try clear hk); (try clear hi)))
   go_ret
   exact ⟨qe, qb2 HB.out GE273.out GE274.out⟩
  ·rw [if_neg c11] at H
   have c11b0 : decide (t276 < 0) = false := decide_eq_false c11
   clear c11
   replace H := Option.bind_eq_some_iff.mp H
   obtain ⟨⟨t277, t280, t283, t286⟩, A190, H⟩ := H
   replace H : ((laws_toDisk.f k l1_0 l1_1 l1_2 l1_3).bind fun bt289 => ((spec_SameDisk.f k t277 t280 t283 t286 bt289.1 bt289.2.1 bt289.2.2.1 bt289.2.2.2).bind fun t301 => ((laws_toDisk.f k l0_0 l0_1 l0_2 l0_3).bind fun bt302 => ((laws_toDisk.f k l1_0 l1_1 l1_2 l1_3).bind fun bt315 => ((impl_SameDisk.f k bt302.1 bt302.2.1 bt302.2.2.1 bt302.2.2.2 bt315.1 bt315.2.1 bt315.2.2.1 bt315.2.2.2).bind fun t328 => (if (t328 != t301) = true then (some false) else ((laws_toDisk.f k l0_0 l0_1 l0_2 l0_3).bind fun bt329 => ((laws_eqDisk.f k bt302.1 bt302.2.1 bt302.2.2.1 bt302.2.2.2 bt329.1 bt329.2.1 bt329.2.2.1 bt329.2.2.2).bind fun t341 => (if t341 = true then ((laws_toDisk.f k l1_0 l1_1 l1_2 l1_3).bind fun bt342 => ((laws_eqDisk.f k bt315.1 bt315.2.1 bt315.2.2.1 bt315.2.2.2 bt342.1 bt342.2.1 bt342.2.2.1 bt342.2.2.2).bind fun t354 => (if t354 = true then (some true) else (some false)))) else (some false)))))))))) = some r := H
   have A19 := Aside0.mk A190
   clear A190
   replace H := Option.bind_eq_some_iff.mp H
   obtain ⟨⟨t289, t292, t295, t298⟩, A200, H⟩ := H
   replace H : ((spec_SameDisk.f k t277 t280 t283 t286 t289 t292 t295 t298).bind fun t301 => ((laws_toDisk.f k l0_0 l0_1 l0_2 l0_3).bind fun bt302 => ((laws_toDisk.f k l1_0 l1_1 l1_2 l1_3).bind fun bt315 => ((impl_SameDisk.f k bt302.1 bt302.2.1 bt302.2.2.1 bt302.2.2.2 bt315.1 bt315.2.1 bt315.2.2.1 bt315.2.2.2).bind fun t328 => (if (t328 != t301) = true then (some false) else ((laws_toDisk.f k l0_0 l0_1 l0_2 l0_3).bind fun bt329 => ((laws_eqDisk.f k bt302.1 bt302.2.1 bt302.2.2.1 bt302.2.2.2 bt329.1 bt329.2.1 bt329.2.2.1 bt329.2.2.2).bind fun t341 => (if t341 = true then ((laws_toDisk.f k l1_0 l1_1 l1_2 l1_3).bind fun bt342 => ((laws_eqDisk.f k bt315.1 bt315.2.1 bt315.2.2.1 bt315.2.2.2 bt342.1 bt342.2.1 bt342.2.2.1 bt342.2.2.2).bind fun t354 => (if t354 = true then (some true) else (some false)))) else (some false))))))))) = some r := H
   have A20 := Aside0.mk A200
   clear A200
   replace H := Option.bind_eq_some_iff.mp H
   obtain ⟨t301, A210, H⟩ := H
   replace H : ((laws_toDisk.f k l0_0 l0_1 l0_2 l0_3).bind fun bt302 => ((laws_toDisk.f k l1_0 l1_1 l1_2 l1_3).bind fun bt315 => ((impl_SameDisk.f k bt302.1 bt302.2.1 bt302.2.2.1 bt302.2.2.2 bt315.1 bt315.2.1 bt315.2.2.1 bt315.2.2.2).bind fun t328 => (if (t328 != t301) = true then (some false) else ((laws_toDisk.f k l0_0 l0_1 l0_2 l0_3).bind fun bt329 => ((laws_eqDisk.f k bt302.1 bt302.2.1 bt302.2.2.1 bt302.2.2.2 bt329.1 bt329.2.1 bt329.2.2.1 bt329.2.2.2).bind fun t341 => (if t341 = true then ((laws_toDisk.f k l1_0 l1_1 l1_2 l1_3).bind fun bt342 => ((laws_eqDisk.f k bt315.1 bt315.2.1 bt315.2.2.1 bt315.2.2.2 bt342.1 bt342.2.1 bt342.2.2.1 bt342.2.2.2).bind fun t354 => (if t354 = true then (some true) else (some false)))) else (some false)))))))) = some r := H
   have A21 := Aside0.mk A210
   clear A210
   replace H := Option.bind_eq_some_iff.mp H
   obtain ⟨⟨t302, t305, t308, t311⟩, A220, H⟩ := H
   replace H : ((laws_toDisk.f k l1_0 l1_1 l1_2 l1_3).bind fun bt315 => ((impl_SameDisk.f k t302 t305 t308 t311 bt315.1 bt315.2.1 bt315.2.2.1 bt315.2.2.2).bind fun t328 => (if (t328 != t301) = true then (some false) else ((laws_toDisk.f k l0_0 l0_1 l0_2 l0_3).bind fun bt329 => ((laws_eqDisk.f k t302 t305 t308 t311 bt329.1 bt329.2.1 bt329.2.2.1 bt329.2.2.2).bind fun t341 => (if t341 = true then ((laws_toDisk.f k l1_0 l1_1 l1_2 l1_3).bind fun bt342 => ((laws_eqDisk.f k bt315.1 bt315.2.1 bt315.2.2.1 bt315.2.2.2 bt342.1 bt342.2.1 bt342.2.2.1 bt342.2.2.2).bind fun t354 => (if t354 = true then (some true) else (some false)))) else (some false))))))) = some r := H
   have A22 := Aside0.mk A220
   clear A220
   replace H := Option.bind_eq_some_iff.mp H
   obtain ⟨⟨t315, t318, t321, t324⟩, A230, H⟩ := H
   replace H : ((impl_SameDisk.f k t302 t305 t308 t311 t315 t318 t321 t324).bind fun t328 => (if (t328 != t301) = true then (some false) else ((laws_toDisk.f k l0_0 l0_1 l0_2 l0_3).bind fun bt329 => ((laws_eqDisk.f k t302 t305 t308 t311 bt329.1 bt329.2.1 bt329.2.2.1 bt329.2.2.2).bind fun t341 => (if t341 = true then ((laws_toDisk.f k l1_0 l1_1 l1_2 l1_3).bind fun bt342 => ((laws_eqDisk.f k t315 t318 t321 t324 bt342.1 bt342.2.1 bt342.2.2.1 bt342.2.2.2).bind fun t354 => (if t354 = true then (some true) else (some false)))) else (some false)))))) = some r := H
   have A23 := Aside0.mk A230
   clear A230
   replace H := Option.bind_eq_some_iff.mp H
   obtain ⟨t328, A240, H⟩ := H
   replace H : (if (t328 != t301) = true then (some false) else ((laws_toDisk.f k l0_0 l0_1 l0_2 l0_3).bind fun bt329 => ((laws_eqDisk.f k t302 t305 t308 t311 bt329.1 bt329.2.1 bt329.2.2.1 bt329.2.2.2).bind fun t341 => (if t341 = true then ((laws_toDisk.f k l1_0 l1_1 l1_2 l1_3).bind fun bt342 => ((laws_eqDisk.f k t315 t318 t321 t324 bt342.1 bt342.2.1 bt342.2.2.1 bt342.2.2.2).bind fun t354 => (if t354 = true then (some true) else (some false)))) else (some false))))) = some r := H
   have A24 := Aside0.mk A240
   clear A240
   by_cases c25 : (t328 != t301) = true
   ·rw [if_pos c25] at H
    have c25b0 : (t328 != t301) = true := c25
    (try (have c25b1 : decide (t328 = t301) = false := by simpa using c25))
    (try (have c25b2 : (t328 == t301) = false := by simpa using c25))
    (try (have c25b3 : ¬ (t328 = t301) := by simpa using c25))
    clear c25
    exact absurd ((Option.some.inj H).trans hr_.out) (by decide)
   ·rw [if_neg c25] at H
    have c25b0 : (t328 != t301) = false := by simpa using c25
    (try (have c25b1 : decide (t328 = t301) = true := by simpa using c25))
    (try (have c25b2 : (t328 == t301) = true := by simpa using c25))
    clear c25
    replace H := Option.bind_eq_some_iff.mp H
    obtain ⟨⟨t329, t332, t335, t338⟩, A260, H⟩ := H
    replace H : ((laws_eqDisk.f k t302 t305 t308 t311 t329 t332 t335 t338).bind fun t341 => (if t341 = true then ((laws_toDisk.f k l1_0 l1_1 l1_2 l1_3).bind fun bt342 => ((laws_eqDisk.f k t315 t318 t321 t324 bt342.1 bt342.2.1 bt342.2.2.1 bt342.2.2.2).bind fun t354 => (if t354 = true then (some true) else (some false)))) else (some false))) = some r := H
    have A26 := Aside0.mk A260
    clear A260
    replace H := Option.bind_eq_some_iff.mp H
    obtain ⟨t341, A270, H⟩ := H
    replace H : (if t341 = true then ((laws_toDisk.f k l1_0 l1_1 l1_2 l1_3).bind fun bt342 => ((laws_eqDisk.f k t315 t318 t321 t324 bt342.1 bt342.2.1 bt342.2.2.1 bt342.2.2.2).bind fun t354 => (if t354 = true then (some true) else (some false)))) else (some false)) = some r := H
    have A27 := Aside0.mk A270
    clear A270
    by_cases c28 : t341 = true
    ·subst c28
     have H1 : ((laws_toDisk.f k l1_0 l1_1 l1_2 l1_3).bind fun bt342 => ((laws_eqDisk.f k t315 t318 t321 t324 bt342.1 bt342.2.1 bt342.2.2.1 bt342.2.2.2).bind fun t354 => (if t354 = true then (some true) else (some false)))) = some r := by rw [if_pos rfl] at H; exact H
     clear H
     have H := H1
     clear H1
     replace H := Option.bind_eq_some_iff.mp H
     obtain ⟨⟨t342, t345, t348, t351⟩, A290, H⟩ := H
     replace H : ((laws_eqDisk.f k t315 t318 t321 t324 t342 t345 t348 t351).bind fun t354 => (if t354 = true then (some true) else (some false))) = some r := H
     have A29 := Aside0.mk A290
     clear A290
     replace H := Option.bind_eq_some_iff.mp H
     obtain ⟨t354, A300, H⟩ := H
     replace H : (if t354 = true then (some true) else (some false)) = some r := H
     have A30 := Aside0.mk A300
     clear A300
     by_cases c31 : t354 = true
     ·subst c31
      have H1 : (some true) = some r := by rw [if_pos rfl] at H; exact H
      clear H
      have H := H1
      clear H1
      obtain rfl := Option.some.inj H
      go_enter Try.func11, Try.ntmps11
      try go_wp2_with (first | ((with_reducible refine gate_dst (N := 2) rfl ?_); refine box_event ?hg (N := 2) ?hd (cs := #[.slice A0_0 l0_0.length c0_0, .slice A0_1 l0_1.length c0_1, .slice A0_2 l0_2.length c0_2, .slice A0_3 l0_3.length c0_3]) (t := 28) ?hr ?_; (case hd => rfl); (case hg => rfl); (case hr => first | (go_simp; done) | (go_simp; rfl)); intro gb273 hg w32 hbox hb; have n0_ := Aside0.mk (below_step (qb HB.out) hb); have n1_ := Aside0.mk (hbox); have n2_ := Aside0.mk ((by rw [hg]; exact (below_size (qb HB.out)) : w.heap.size ≤ gb273)); have n3_ := Aside0.mk ((by rw [hg]; exact (below_size (qb HB.out)) : w.heap.size ≤ gb273)); clear HB; have HB := n0_; have BK273 := n1_; have GW273 := n2_; have GE273 := n3_; clear n0_ n1_ n2_ n3_; clear hb hbox hg) | ((with_reducible refine gate_dst (N := 3) rfl ?_); refine box_event ?hg (N := 3) ?hd (cs := #[.slice A1_0 l1_0.length c1_0, .slice A1_1 l1_1.length c1_1, .slice A1_2 l1_2.length c1_2, .slice A1_3 l1_3.length c1_3]) (t := 28) ?hr ?_; (case hd => rfl); (case hg => rfl); (case hr => first | (go_simp; done) | (go_simp; rfl)); intro gb274 hg w33 hbox hb; have n0_ := Aside0.mk (blk_below (g := gb273) (o := .cells #[.slice A0_0 l0_0.length c0_0, .slice A0_1 l0_1.length c0_1, .slice A0_2 l0_2.length c0_2, .slice A0_3 l0_3.length c0_3] 28 (0, 0)) (qk BK273.out) hb); have n1_ := Aside0.mk (below_step (qb1 HB.out GE273.out) hb); have n2_ := Aside0.mk (hbox); have n3_ := Aside0.mk ((by rw [hg]; exact (below_size (qb1 HB.out GE273.out)) : w.heap.size ≤ gb274)); have n4_ := Aside0.mk ((by rw [hg]; exact (below_size (qb1 HB.out GE273.out)) : w.heap.size ≤ gb274)); have n5_ := Aside0.mk ((by rw [hg]; exact Nat.ne_of_lt (blk_lt (g := gb273) (o := .cells #[.slice A0_0 l0_0.length c0_0, .slice A0_1 l0_1.length c0_1, .slice A0_2 l0_2.length c0_2, .slice A0_3 l0_3.length c0_3] 28 (0, 0)) (qk BK273.out)) : gb273 ≠ gb274)); have n6_ := Aside0.mk ((by rw [hg]; exact Nat.ne_of_gt (blk_lt (g := gb273) (o := .cells #[.slice A0_0 l0_0.length c0_0, .slice A0_1 l0_1.length c0_1, .slice A0_2 l0_2.length c0_2, .slice A0_3 l0_3.length c0_3] 28 (0, 0)) (qk BK273.out)) : gb274 ≠ gb273)); clear BK273; clear HB; have BK273 := n0_; have HB := n1_; have BK274 := n2_; have GW274 := n3_; have GE274 := n4_; have NB273_274 := n5_; have NB274_273 := n6_; clear n0_ n1_ n2_ n3_ n4_ n5_ n6_; clear hb hbox hg; have hnb34 := NB273_274.out; have hnc34 := NB274_273.out; have hcz35_0 : w33.cell? ⟨gb273, 0, none⟩ = some (.slice A0_0 l0_0.length c0_0) := (blk_cell BK273.out 0).trans rfl; have hcz35_1 : w33.cell? ⟨gb273, 1, none⟩ = some (.slice A0_1 l0_1.length c0_1) := (blk_cell BK273.out 1).trans rfl; have hcz35_2 : w33.cell? ⟨gb273, 2, none⟩ = some (.slice A0_2 l0_2.length c0_2) := (blk_cell BK273.out 2).trans rfl; have hcz35_3 : w33.cell? ⟨gb273, 3, none⟩ = some (.slice A0_3 l0_3.length c0_3) := (blk_cell BK273.out 3).trans rfl; have hfz35_0 := blk_frozen BK273.out 0; have hfz35_1 := blk_frozen BK273.out 1; have hfz35_2 := blk_frozen BK273.out 2; have hfz35_3 := blk_frozen BK273.out 3) | ((with_reducible refine gate_callee (f := 14) rfl ?_); refine goesL_ (some 12) rfl rfl Try.func14 (by kernel_rfl) rfl #[.agg #[.slice A0_0 l0_0.length c0_0, .slice A0_1 l0_1.length c0_1, .slice A0_2 l0_2.length c0_2, .slice A0_3 l0_3.length c0_3], .int .i64 1048576] rfl qm ?_; (with_reducible refine (laws_szDisk.calls k _ _ l0_0 _ _ l0_1 _ _ l0_2 _ _ l0_3 1048576 t275 _ ?side1 ?side2 ?side3 ?side4 ?side5 ?side6 ?side7 ?side8 A3.out).mono ?_); (case side1 => repeat (first | exact (Kd.C_below HR0_0.out HB.out) | (with_reducible refine Kd.C_alloc ?_ _) | (with_reducible refine Kd.C_drewN ?_ _) | (with_reducible refine Kd.C_drew ?_))); (case side2 => exact HC0_0.out); (case side3 => repeat (first | exact (Kd.C_below HR0_1.out HB.out) | (with_reducible refine Kd.C_alloc ?_ _) | (with_reducible refine Kd.C_drewN ?_ _) | (with_reducible refine Kd.C_drew ?_))); (case side4 => exact HC0_1.out); (case side5 => repeat (first | exact (Kd.C_below HR0_2.out HB.out) | (with_reducible refine Kd.C_alloc ?_ _) | (with_reducible refine Kd.C_drewN ?_ _) | (with_reducible refine Kd.C_drew ?_))); (case side6 => exact HC0_2.out); (case side7 => repeat (first | exact (Kd.C_below HR0_3.out HB.out) | (with_reducible refine Kd.C_alloc ?_ _) | (with_reducible refine Kd.C_drewN ?_ _) | (with_reducible refine Kd.C_drew ?_))); (case side8 => exact HC0_3.out); rintro e w36 ⟨rfl, hb⟩; refine ⟨_, rfl, ?_⟩; have n0_ := Aside0.mk (blk_below (g := gb273) (o := .cells #[.slice A0_0 l0_0.length c0_0, .slice A0_1 l0_1.length c0_1, .slice A0_2 l0_2.length c0_2, .slice A0_3 l0_3.length c0_3] 28 (0, 0)) (qk BK273.out) hb); have n1_ := Aside0.mk (blk_below (g := gb274) (o := .cells #[.slice A1_0 l1_0.length c1_0, .slice A1_1 l1_1.length c1_1, .slice A1_2 l1_2.length c1_2, .slice A1_3 l1_3.length c1_3] 28 (0, 0)) (qk BK274.out) hb); have n2_ := Aside0.mk (below_step (qb2 HB.out GE273.out GE274.out) hb); clear BK273; clear BK274; clear HB; have BK273 := n0_; have BK274 := n1_; have HB := n2_; clear n0_ n1_ n2_; (try clear hb); (try clear hb2); (try clear hk); (try clear hi); have hcz37_0 : w36.cell? ⟨gb274, 0, none⟩ = some (.slice A1_0 l1_0.length c1_0) := (blk_cell BK274.out 0).trans rfl; have hcz37_1 : w36.cell? ⟨gb274, 1, none⟩ = some (.slice A1_1 l1_1.length c1_1) := (blk_cell BK274.out 1).trans rfl; have hcz37_2 : w36.cell? ⟨gb274, 2, none⟩ = some (.slice A1_2 l1_2.length c1_2) := (blk_cell BK274.out 2).trans rfl; have hcz37_3 : w36.cell? ⟨gb274, 3, none⟩ = some (.slice A1_3 l1_3.length c1_3) := (blk_cell BK274.out 3).trans rfl; have hfz37_0 := blk_frozen BK274.out 0; have hfz37_1 := blk_frozen BK274.out 1; have hfz37_2 := blk_frozen BK274.out 2; have hfz37_3 := blk_frozen BK274.out 3) | ((with_reducible refine gate_callee (f := 14) rfl ?_); refine goesL_ (some 17) rfl rfl Try.func14 (by kernel_rfl) rfl #[.agg #[.slice A1_0 l1_0.length c1_0, .slice A1_1 l1_1.length c1_1, .slice A1_2 l1_2.length c1_2, .slice A1_3 l1_3.length c1_3], .int .i64 t275] rfl qm ?_; (with_reducible refine (laws_szDisk.calls k _ _ l1_0 _ _ l1_1 _ _ l1_2 _ _ l1_3 t275 t276 _ ?side1 ?side2 ?side3 ?side4 ?side5 ?side6 ?side7 ?side8 A10.out).mono ?_); (case side1 => repeat (first | exact (Kd.C_below HR1_0.out HB.out) | (with_reducible refine Kd.C_alloc ?_ _) | (with_reducible refine Kd.C_drewN ?_ _) | (with_reducible refine Kd.C_drew ?_))); (case side2 => exact HC1_0.out); (case side3 => repeat (first | exact (Kd.C_below HR1_1.out HB.out) | (with_reducible refine Kd.C_alloc ?_ _) | (with_reducible refine Kd.C_drewN ?_ _) | (with_reducible refine Kd.C_drew ?_))); (case side4 => exact HC1_1.out); (case side5 => repeat (first | exact (Kd.C_below HR1_2.out HB.out) | (with_reducible refine Kd.C_alloc ?_ _) | (with_reducible refine Kd.C_drewN ?_ _) | (with_reducible refine Kd.C_drew ?_))); (case side6 => exact HC1_2.out); (case side7 => repeat (first | exact (Kd.C_below HR1_3.out HB.out) | (with_reducible refine Kd.C_alloc ?_ _) | (with_reducible refine Kd.C_drewN ?_ _) | (with_reducible refine Kd.C_drew ?_))); (case side8 => exact HC1_3.out); rintro e w38 ⟨rfl, hb⟩; refine ⟨_, rfl, ?_⟩; have n0_ := Aside0.mk (blk_below (g := gb273) (o := .cells #[.slice A0_0 l0_0.length c0_0, .slice A0_1 l0_1.length c0_1, .slice A0_2 l0_2.length c0_2, .slice A0_3 l0_3.length c0_3] 28 (0, 0)) (qk BK273.out) hb); have n1_ := Aside0.mk (blk_below (g := gb274) (o := .cells #[.slice A1_0 l1_0.length c1_0, .slice A1_1 l1_1.length c1_1, .slice A1_2 l1_2.length c1_2, .slice A1_3 l1_3.length c1_3] 28 (0, 0)) (qk BK274.out) hb); have n2_ := Aside0.mk (below_step (qb2 HB.out GE273.out GE274.out) hb); clear BK273; clear BK274; clear HB; have BK273 := n0_; have BK274 := n1_; have HB := n2_; clear n0_ n1_ n2_; (try clear hb); (try clear hb2); (try clear hk); (try clear hi)))
      have n0_ := Aside0.mk (blk_drew BK273.out)
      have n1_ := Aside0.mk (blk_drew BK274.out)
      have n2_ := Aside0.mk (below_drew1 HB.out)
      clear BK273
      clear BK274
      clear HB
      have BK273 := n0_
      have BK274 := n1_
      have HB := n2_
      clear n0_ n1_ n2_
      refine start_ (n := 6) (S := fun w' => w'.cell? ⟨gb273, 0, none⟩ = some (.slice A0_0 l0_0.length c0_0) ∧ w'.cell? ⟨gb273, 1, none⟩ = some (.slice A0_1 l0_1.length c0_1) ∧ w'.cell? ⟨gb273, 2, none⟩ = some (.slice A0_2 l0_2.length c0_2) ∧ w'.cell? ⟨gb273, 3, none⟩ = some (.slice A0_3 l0_3.length c0_3) ∧ w'.cell? ⟨gb274, 0, none⟩ = some (.slice A1_0 l1_0.length c1_0) ∧ w'.cell? ⟨gb274, 1, none⟩ = some (.slice A1_1 l1_1.length c1_1) ∧ w'.cell? ⟨gb274, 2, none⟩ = some (.slice A1_2 l1_2.length c1_2) ∧ w'.cell? ⟨gb274, 3, none⟩ = some (.slice A1_3 l1_3.length c1_3)) (ds := []) #[false, false, false, false, false, false] (by kernel_rfl) rfl rfl ⟨(blk_cell BK273.out 0).trans rfl, (blk_cell BK273.out 1).trans rfl, (blk_cell BK273.out 2).trans rfl, (blk_cell BK273.out 3).trans rfl, (blk_cell BK274.out 0).trans rfl, (blk_cell BK274.out 1).trans rfl, (blk_cell BK274.out 2).trans rfl, (blk_cell BK274.out 3).trans rfl⟩ (fun hHeld => ?_)
      generalize w38.drew = w39 at BK273 BK274 HB hHeld ⊢
      refine take_ (i := 0) (N := some 20) (v := ?_) (a' := ?_) #[true, false, false, false, false, false] rfl rfl (by kernel_rfl) (fun _ _ _ h => h) (Or.inl ⟨by rfl, ?_⟩) hHeld ?_ ?_
      rotate_left
      ·rintro w' ⟨s0, s1, s2, s3, s4, s5, s6, s7⟩
       go_simp
       with_reducible rfl
      rotate_left
      ·refine qp ?_
       rfl
      refine take_ (i := 2) (N := some 22) (v := ?_) (a' := ?_) #[true, false, true, false, false, false] rfl rfl (by kernel_rfl) (fun _ _ _ h => h) (Or.inl ⟨by rfl, ?_⟩) hHeld ?_ ?_
      rotate_left
      ·rintro w' ⟨s0, s1, s2, s3, s4, s5, s6, s7⟩
       go_simp
       with_reducible rfl
      rotate_left
      ·refine qp ?_
       rfl
      refine one_ (i := 1) (N := some 21) #[true, true, true, false, false, false] rfl rfl (by kernel_rfl) (by decide) (fun K hK => ?_)
      refine goes_ Try.func16 (by kernel_rfl) rfl #[.agg #[.slice A0_0 l0_0.length c0_0, .slice A0_1 l0_1.length c0_1, .slice A0_2 l0_2.length c0_2, .slice A0_3 l0_3.length c0_3]] (by rfl) rfl rfl qm ?_
      with_reducible refine (laws_toDisk.calls k _ _ l0_0 _ _ l0_1 _ _ l0_2 _ _ l0_3 t277 t280 t283 t286 _ ?side1 ?side2 ?side3 ?side4 ?side5 ?side6 ?side7 ?side8 A19.out).mono ?_
      (case side1 => repeat (first | exact (Kd.C_below HR0_0.out HB.out) | (with_reducible refine Kd.C_alloc ?_ _) | (with_reducible refine Kd.C_drewN ?_ _) | (with_reducible refine Kd.C_drew ?_)))
      (case side2 => exact HC0_0.out)
      (case side3 => repeat (first | exact (Kd.C_below HR0_1.out HB.out) | (with_reducible refine Kd.C_alloc ?_ _) | (with_reducible refine Kd.C_drewN ?_ _) | (with_reducible refine Kd.C_drew ?_)))
      (case side4 => exact HC0_1.out)
      (case side5 => repeat (first | exact (Kd.C_below HR0_2.out HB.out) | (with_reducible refine Kd.C_alloc ?_ _) | (with_reducible refine Kd.C_drewN ?_ _) | (with_reducible refine Kd.C_drew ?_)))
      (case side6 => exact HC0_2.out)
      (case side7 => repeat (first | exact (Kd.C_below HR0_3.out HB.out) | (with_reducible refine Kd.C_alloc ?_ _) | (with_reducible refine Kd.C_drewN ?_ _) | (with_reducible refine Kd.C_drew ?_)))
      (case side8 => exact HC0_3.out)
      rintro e w40 ⟨v278, v281, v284, v287, rfl, ho0, ho1, ho2, ho3, hb⟩
      refine ⟨_, rfl, ?_⟩
      have n0_ := Aside0.mk (Kd.R_lower ho0 (below_size (qb2 HB.out GE273.out GE274.out)))
      have n1_ := Aside0.mk (Kd.R_lower ho1 (below_size (qb2 HB.out GE273.out GE274.out)))
      have n2_ := Aside0.mk (Kd.S_lower ho2 (below_size (qb2 HB.out GE273.out GE274.out)))
      have n3_ := Aside0.mk (Kd.S_lower ho3 (below_size (qb2 HB.out GE273.out GE274.out)))
      have n4_ := Aside0.mk (blk_below (g := gb273) (o := .cells #[.slice A0_0 l0_0.length c0_0, .slice A0_1 l0_1.length c0_1, .slice A0_2 l0_2.length c0_2, .slice A0_3 l0_3.length c0_3] 28 (0, 0)) (qk BK273.out) hb)
      have n5_ := Aside0.mk (blk_below (g := gb274) (o := .cells #[.slice A1_0 l1_0.length c1_0, .slice A1_1 l1_1.length c1_1, .slice A1_2 l1_2.length c1_2, .slice A1_3 l1_3.length c1_3] 28 (0, 0)) (qk BK274.out) hb)
      have n6_ := Aside0.mk (below_step (qb2 HB.out GE273.out GE274.out) hb)
      clear BK273
      clear BK274
      clear HB
      have HO279 := n0_
      have HO282 := n1_
      have HO285 := n2_
      have HO288 := n3_
      have BK273 := n4_
      have BK274 := n5_
      have HB := n6_
      clear n0_ n1_ n2_ n3_ n4_ n5_ n6_
      (try clear hb)
      (try clear hb2)
      (try clear hk)
      (try clear hi)
      (try clear ho0)
      (try clear ho1)
      (try clear ho2)
      (try clear ho3)
      refine hK.out _ _ ⟨(blk_cell BK273.out 0).trans rfl, (blk_cell BK273.out 1).trans rfl, (blk_cell BK273.out 2).trans rfl, (blk_cell BK273.out 3).trans rfl, (blk_cell BK274.out 0).trans rfl, (blk_cell BK274.out 1).trans rfl, (blk_cell BK274.out 2).trans rfl, (blk_cell BK274.out 3).trans rfl⟩ (fun hHeld => ?_)
      clear hK K
      refine norm_ (a' := ?_) ?_ ?_
      rotate_left
      ·show Act.put _ (some 21) _ = _
       refine qp ?_
       rfl
      refine one_ (i := 3) (N := some 23) #[true, true, true, true, false, false] rfl rfl (by kernel_rfl) (by decide) (fun K hK => ?_)
      refine goes_ Try.func16 (by kernel_rfl) rfl #[.agg #[.slice A1_0 l1_0.length c1_0, .slice A1_1 l1_1.length c1_1, .slice A1_2 l1_2.length c1_2, .slice A1_3 l1_3.length c1_3]] (by rfl) rfl rfl qm ?_
      with_reducible refine (laws_toDisk.calls k _ _ l1_0 _ _ l1_1 _ _ l1_2 _ _ l1_3 t289 t292 t295 t298 _ ?side1 ?side2 ?side3 ?side4 ?side5 ?side6 ?side7 ?side8 A20.out).mono ?_
      (case side1 => repeat (first | exact (Kd.C_below HR1_0.out HB.out) | (with_reducible refine Kd.C_alloc ?_ _) | (with_reducible refine Kd.C_drewN ?_ _) | (with_reducible refine Kd.C_drew ?_)))
      (case side2 => exact HC1_0.out)
      (case side3 => repeat (first | exact (Kd.C_below HR1_1.out HB.out) | (with_reducible refine Kd.C_alloc ?_ _) | (with_reducible refine Kd.C_drewN ?_ _) | (with_reducible refine Kd.C_drew ?_)))
      (case side4 => exact HC1_1.out)
      (case side5 => repeat (first | exact (Kd.C_below HR1_2.out HB.out) | (with_reducible refine Kd.C_alloc ?_ _) | (with_reducible refine Kd.C_drewN ?_ _) | (with_reducible refine Kd.C_drew ?_)))
      (case side6 => exact HC1_2.out)
      (case side7 => repeat (first | exact (Kd.C_below HR1_3.out HB.out) | (with_reducible refine Kd.C_alloc ?_ _) | (with_reducible refine Kd.C_drewN ?_ _) | (with_reducible refine Kd.C_drew ?_)))
      (case side8 => exact HC1_3.out)
      rintro e w41 ⟨v290, v293, v296, v299, rfl, ho0, ho1, ho2, ho3, hb⟩
      refine ⟨_, rfl, ?_⟩
      have n0_ := Aside0.mk (Kd.R_mono (Kd.R_told (Kd.R_told (Kd.R_old (qr HO279.out) hb) (Kd.R_base ho0)) (Kd.R_base ho1)) (fun _ h_ => h_.1))
      have n1_ := Aside0.mk (Kd.R_mono (Kd.R_told (Kd.R_told (Kd.R_old (qr HO282.out) hb) (Kd.R_base ho0)) (Kd.R_base ho1)) (fun _ h_ => h_.1))
      have n2_ := Aside0.mk (Kd.S_elder' (qs HO285.out) (Kd.S_base ho2) hb)
      have n3_ := Aside0.mk (Kd.S_elder' (qs HO288.out) (Kd.S_base ho3) hb)
      have n4_ := Aside0.mk (Kd.R_lower (Kd.R_new' (Kd.R_new' ho0 (Kd.R_lt (qr HO279.out))) (Kd.R_lt (qr HO282.out))) (below_size (qb2 HB.out GE273.out GE274.out)))
      have n5_ := Aside0.mk (Kd.R_lower (Kd.R_new' (Kd.R_new' ho1 (Kd.R_lt (qr HO279.out))) (Kd.R_lt (qr HO282.out))) (below_size (qb2 HB.out GE273.out GE274.out)))
      have n6_ := Aside0.mk (Kd.S_lower (Kd.S_new' ho2 (Kd.S_lt (qs HO285.out))) (below_size (qb2 HB.out GE273.out GE274.out)))
      have n7_ := Aside0.mk (Kd.S_lower (Kd.S_new' ho3 (Kd.S_lt (qs HO288.out))) (below_size (qb2 HB.out GE273.out GE274.out)))
      have n8_ := Aside0.mk (blk_below (g := gb273) (o := .cells #[.slice A0_0 l0_0.length c0_0, .slice A0_1 l0_1.length c0_1, .slice A0_2 l0_2.length c0_2, .slice A0_3 l0_3.length c0_3] 28 (0, 0)) (qk BK273.out) hb)
      have n9_ := Aside0.mk (blk_below (g := gb274) (o := .cells #[.slice A1_0 l1_0.length c1_0, .slice A1_1 l1_1.length c1_1, .slice A1_2 l1_2.length c1_2, .slice A1_3 l1_3.length c1_3] 28 (0, 0)) (qk BK274.out) hb)
      have n10_ := Aside0.mk (below_step (qb2 HB.out GE273.out GE274.out) hb)
      clear HO279
      clear HO282
      clear HO285
      clear HO288
      clear BK273
      clear BK274
      clear HB
      have HO279 := n0_
      have HO282 := n1_
      have HO285 := n2_
      have HO288 := n3_
      have HO291 := n4_
      have HO294 := n5_
      have HO297 := n6_
      have HO300 := n7_
      have BK273 := n8_
      have BK274 := n9_
      have HB := n10_
      clear n0_ n1_ n2_ n3_ n4_ n5_ n6_ n7_ n8_ n9_ n10_
      (try clear hb)
      (try clear hb2)
      (try clear hk)
      (try clear hi)
      (try clear ho0)
      (try clear ho1)
      (try clear ho2)
      (try clear ho3)
      obtain ⟨Ao42, co42, eo42⟩ := Kd.R_slice HO279.out
      (first | subst eo42 | (injection eo42 with f1_ f2_ f3_; have f4_ := f1_.symm; have f5_ := f3_.symm; clear f1_ f2_ f3_; subst f4_; subst f5_))
      obtain ⟨Ao43, co43, eo43⟩ := Kd.R_slice HO282.out
      (first | subst eo43 | (injection eo43 with f1_ f2_ f3_; have f4_ := f1_.symm; have f5_ := f3_.symm; clear f1_ f2_ f3_; subst f4_; subst f5_))
      obtain ⟨Ao44, co44, eo44⟩ := Kd.S_slice HO285.out
      (first | subst eo44 | (injection eo44 with f1_ f2_ f3_; have f4_ := f1_.symm; have f5_ := f3_.symm; clear f1_ f2_ f3_; subst f4_; subst f5_))
      obtain ⟨Ao45, co45, eo45⟩ := Kd.S_slice HO288.out
      (first | subst eo45 | (injection eo45 with f1_ f2_ f3_; have f4_ := f1_.symm; have f5_ := f3_.symm; clear f1_ f2_ f3_; subst f4_; subst f5_))
      obtain ⟨Ao46, co46, eo46⟩ := Kd.R_slice HO291.out
      (first | subst eo46 | (injection eo46 with f1_ f2_ f3_; have f4_ := f1_.symm; have f5_ := f3_.symm; clear f1_ f2_ f3_; subst f4_; subst f5_))
      obtain ⟨Ao47, co47, eo47⟩ := Kd.R_slice HO294.out
      (first | subst eo47 | (injection eo47 with f1_ f2_ f3_; have f4_ := f1_.symm; have f5_ := f3_.symm; clear f1_ f2_ f3_; subst f4_; subst f5_))
      obtain ⟨Ao48, co48, eo48⟩ := Kd.S_slice HO297.out
      (first | subst eo48 | (injection eo48 with f1_ f2_ f3_; have f4_ := f1_.symm; have f5_ := f3_.symm; clear f1_ f2_ f3_; subst f4_; subst f5_))
      obtain ⟨Ao49, co49, eo49⟩ := Kd.S_slice HO300.out
      (first | subst eo49 | (injection eo49 with f1_ f2_ f3_; have f4_ := f1_.symm; have f5_ := f3_.symm; clear f1_ f2_ f3_; subst f4_; subst f5_))
      refine hK.out _ _ ⟨(blk_cell BK273.out 0).trans rfl, (blk_cell BK273.out 1).trans rfl, (blk_cell BK273.out 2).trans rfl, (blk_cell BK273.out 3).trans rfl, (blk_cell BK274.out 0).trans rfl, (blk_cell BK274.out 1).trans rfl, (blk_cell BK274.out 2).trans rfl, (blk_cell BK274.out 3).trans rfl⟩ (fun hHeld => ?_)
      clear hK K
      refine norm_ (a' := ?_) ?_ ?_
      rotate_left
      ·show Act.put _ (some 23) _ = _
       refine qp ?_
       rfl
      refine one_ (i := 4) (N := some 24) #[true, true, true, true, true, false] rfl rfl (by kernel_rfl) (by decide) (fun K hK => ?_)
      refine goes_ Try.func51 (by kernel_rfl) rfl #[.agg #[.slice Ao42 t277.length co42, .slice Ao43 t280.length co43, .slice Ao44 t283.length co44, .slice Ao45 t286.length co45], .agg #[.slice Ao46 t289.length co46, .slice Ao47 t292.length co47, .slice Ao48 t295.length co48, .slice Ao49 t298.length co49]] (by rfl) rfl rfl qm ?_
      with_reducible refine (spec_SameDisk.calls k _ _ t277 _ _ t280 _ _ t283 _ _ t286 _ _ t289 _ _ t292 _ _ t295 _ _ t298 t301 _ ?side1 ?side2 ?side3 ?side4 ?side5 ?side6 ?side7 ?side8 ?side9 ?side10 ?side11 ?side12 ?side13 ?side14 ?side15 ?side16 A21.out).mono ?_
      (case side1 => repeat (first | exact (Kd.R_reads' HO279.out).2.2 | (with_reducible refine Kd.C_alloc ?_ _) | (with_reducible refine Kd.C_drewN ?_ _) | (with_reducible refine Kd.C_drew ?_)))
      (case side2 => exact (Kd.R_reads' HO279.out).2.1)
      (case side3 => repeat (first | exact (Kd.R_reads' HO282.out).2.2 | (with_reducible refine Kd.C_alloc ?_ _) | (with_reducible refine Kd.C_drewN ?_ _) | (with_reducible refine Kd.C_drew ?_)))
      (case side4 => exact (Kd.R_reads' HO282.out).2.1)
      (case side5 => repeat (first | exact (Kd.S_reads' HO285.out).2.2 | (with_reducible refine Kd.C_alloc ?_ _) | (with_reducible refine Kd.C_drewN ?_ _) | (with_reducible refine Kd.C_drew ?_)))
      (case side6 => exact (Kd.S_reads' HO285.out).2.1)
      (case side7 => repeat (first | exact (Kd.S_reads' HO288.out).2.2 | (with_reducible refine Kd.C_alloc ?_ _) | (with_reducible refine Kd.C_drewN ?_ _) | (with_reducible refine Kd.C_drew ?_)))
      (case side8 => exact (Kd.S_reads' HO288.out).2.1)
      (case side9 => repeat (first | exact (Kd.R_reads' HO291.out).2.2 | (with_reducible refine Kd.C_alloc ?_ _) | (with_reducible refine Kd.C_drewN ?_ _) | (with_reducible refine Kd.C_drew ?_)))
      (case side10 => exact (Kd.R_reads' HO291.out).2.1)
      (case side11 => repeat (first | exact (Kd.R_reads' HO294.out).2.2 | (with_reducible refine Kd.C_alloc ?_ _) | (with_reducible refine Kd.C_drewN ?_ _) | (with_reducible refine Kd.C_drew ?_)))
      (case side12 => exact (Kd.R_reads' HO294.out).2.1)
      (case side13 => repeat (first | exact (Kd.S_reads' HO297.out).2.2 | (with_reducible refine Kd.C_alloc ?_ _) | (with_reducible refine Kd.C_drewN ?_ _) | (with_reducible refine Kd.C_drew ?_)))
      (case side14 => exact (Kd.S_reads' HO297.out).2.1)
      (case side15 => repeat (first | exact (Kd.S_reads' HO300.out).2.2 | (with_reducible refine Kd.C_alloc ?_ _) | (with_reducible refine Kd.C_drewN ?_ _) | (with_reducible refine Kd.C_drew ?_)))
      (case side16 => exact (Kd.S_reads' HO300.out).2.1)
      rintro e w50 ⟨rfl, hb⟩
      refine ⟨_, rfl, ?_⟩
      have n0_ := Aside0.mk (Kd.R_below (qr HO279.out) hb)
      have n1_ := Aside0.mk (Kd.R_below (qr HO282.out) hb)
      have n2_ := Aside0.mk (Kd.S_below (qs HO285.out) hb)
      have n3_ := Aside0.mk (Kd.S_below (qs HO288.out) hb)
      have n4_ := Aside0.mk (Kd.R_below (qr HO291.out) hb)
      have n5_ := Aside0.mk (Kd.R_below (qr HO294.out) hb)
      have n6_ := Aside0.mk (Kd.S_below (qs HO297.out) hb)
      have n7_ := Aside0.mk (Kd.S_below (qs HO300.out) hb)
      have n8_ := Aside0.mk (blk_below (g := gb273) (o := .cells #[.slice A0_0 l0_0.length c0_0, .slice A0_1 l0_1.length c0_1, .slice A0_2 l0_2.length c0_2, .slice A0_3 l0_3.length c0_3] 28 (0, 0)) (qk BK273.out) hb)
      have n9_ := Aside0.mk (blk_below (g := gb274) (o := .cells #[.slice A1_0 l1_0.length c1_0, .slice A1_1 l1_1.length c1_1, .slice A1_2 l1_2.length c1_2, .slice A1_3 l1_3.length c1_3] 28 (0, 0)) (qk BK274.out) hb)
      have n10_ := Aside0.mk (below_step (qb2 HB.out GE273.out GE274.out) hb)
      clear HO279
      clear HO282
      clear HO285
      clear HO288
      clear HO291
      clear HO294
      clear HO297
      clear HO300
      clear BK273
      clear BK274
      clear HB
      have HO279 := n0_
      have HO282 := n1_
      have HO285 := n2_
      have HO288 := n3_
      have HO291 := n4_
      have HO294 := n5_
      have HO297 := n6_
      have HO300 := n7_
      have BK273 := n8_
      have BK274 := n9_
      have HB := n10_
      clear n0_ n1_ n2_ n3_ n4_ n5_ n6_ n7_ n8_ n9_ n10_
      (try clear hb)
      (try clear hb2)
      (try clear hk)
      (try clear hi)
      refine hK.out _ _ ⟨(blk_cell BK273.out 0).trans rfl, (blk_cell BK273.out 1).trans rfl, (blk_cell BK273.out 2).trans rfl, (blk_cell BK273.out 3).trans rfl, (blk_cell BK274.out 0).trans rfl, (blk_cell BK274.out 1).trans rfl, (blk_cell BK274.out 2).trans rfl, (blk_cell BK274.out 3).trans rfl⟩ (fun hHeld => ?_)
      clear hK K
      refine norm_ (a' := ?_) ?_ ?_
      rotate_left
      ·show Act.put _ (some 24) _ = _
       refine qp ?_
       rfl
      refine pure_ (i := 5) (N := some 6) (v := ?_) (a' := ?_) #[true, true, true, true, true, true] rfl rfl (by kernel_rfl) (fun _ _ _ h => h) (Or.inl ⟨by rfl, ?_⟩) ?_ ?_
      rotate_left
      ·intro w'
       go_simp
       with_reducible rfl
      rotate_left
      ·refine qp ?_
       rfl
      refine done_ (by kernel_rfl) ?_
      have hcz51_0 : w50.cell? ⟨gb273, 0, none⟩ = some (.slice A0_0 l0_0.length c0_0) := (blk_cell BK273.out 0).trans rfl
      have hcz51_1 : w50.cell? ⟨gb273, 1, none⟩ = some (.slice A0_1 l0_1.length c0_1) := (blk_cell BK273.out 1).trans rfl
      have hcz51_2 : w50.cell? ⟨gb273, 2, none⟩ = some (.slice A0_2 l0_2.length c0_2) := (blk_cell BK273.out 2).trans rfl
      have hcz51_3 : w50.cell? ⟨gb273, 3, none⟩ = some (.slice A0_3 l0_3.length c0_3) := (blk_cell BK273.out 3).trans rfl
      have hfz51_0 := blk_frozen BK273.out 0
      have hfz51_1 := blk_frozen BK273.out 1
      have hfz51_2 := blk_frozen BK273.out 2
      have hfz51_3 := blk_frozen BK273.out 3
      try go_wp2_with (first | ((with_reducible refine gate_callee (f := 16) rfl ?_); refine goesL_ (some 26) rfl rfl Try.func16 (by kernel_rfl) rfl #[.agg #[.slice A0_0 l0_0.length c0_0, .slice A0_1 l0_1.length c0_1, .slice A0_2 l0_2.length c0_2, .slice A0_3 l0_3.length c0_3]] rfl qm ?_; (with_reducible refine (laws_toDisk.calls k _ _ l0_0 _ _ l0_1 _ _ l0_2 _ _ l0_3 t302 t305 t308 t311 _ ?side1 ?side2 ?side3 ?side4 ?side5 ?side6 ?side7 ?side8 A22.out).mono ?_); (case side1 => repeat (first | exact (Kd.C_below HR0_0.out HB.out) | (with_reducible refine Kd.C_alloc ?_ _) | (with_reducible refine Kd.C_drewN ?_ _) | (with_reducible refine Kd.C_drew ?_))); (case side2 => exact HC0_0.out); (case side3 => repeat (first | exact (Kd.C_below HR0_1.out HB.out) | (with_reducible refine Kd.C_alloc ?_ _) | (with_reducible refine Kd.C_drewN ?_ _) | (with_reducible refine Kd.C_drew ?_))); (case side4 => exact HC0_1.out); (case side5 => repeat (first | exact (Kd.C_below HR0_2.out HB.out) | (with_reducible refine Kd.C_alloc ?_ _) | (with_reducible refine Kd.C_drewN ?_ _) | (with_reducible refine Kd.C_drew ?_))); (case side6 => exact HC0_2.out); (case side7 => repeat (first | exact (Kd.C_below HR0_3.out HB.out) | (with_reducible refine Kd.C_alloc ?_ _) | (with_reducible refine Kd.C_drewN ?_ _) | (with_reducible refine Kd.C_drew ?_))); (case side8 => exact HC0_3.out); rintro e w52 ⟨v303, v306, v309, v312, rfl, ho0, ho1, ho2, ho3, hb⟩; refine ⟨_, rfl, ?_⟩; have n0_ := Aside0.mk (Kd.R_mono (Kd.R_told (Kd.R_told (Kd.R_old (qr HO279.out) hb) (Kd.R_base ho0)) (Kd.R_base ho1)) (fun _ h_ => h_.1)); have n1_ := Aside0.mk (Kd.R_mono (Kd.R_told (Kd.R_told (Kd.R_old (qr HO282.out) hb) (Kd.R_base ho0)) (Kd.R_base ho1)) (fun _ h_ => h_.1)); have n2_ := Aside0.mk (Kd.S_elder' (qs HO285.out) (Kd.S_base ho2) hb); have n3_ := Aside0.mk (Kd.S_elder' (qs HO288.out) (Kd.S_base ho3) hb); have n4_ := Aside0.mk (Kd.R_mono (Kd.R_told (Kd.R_told (Kd.R_old (qr HO291.out) hb) (Kd.R_base ho0)) (Kd.R_base ho1)) (fun _ h_ => h_.1)); have n5_ := Aside0.mk (Kd.R_mono (Kd.R_told (Kd.R_told (Kd.R_old (qr HO294.out) hb) (Kd.R_base ho0)) (Kd.R_base ho1)) (fun _ h_ => h_.1)); have n6_ := Aside0.mk (Kd.S_elder' (qs HO297.out) (Kd.S_base ho2) hb); have n7_ := Aside0.mk (Kd.S_elder' (qs HO300.out) (Kd.S_base ho3) hb); have n8_ := Aside0.mk (Kd.R_lower (Kd.R_new' (Kd.R_new' (Kd.R_new' (Kd.R_new' ho0 (Kd.R_lt (qr HO279.out))) (Kd.R_lt (qr HO282.out))) (Kd.R_lt (qr HO291.out))) (Kd.R_lt (qr HO294.out))) (below_size (qb2 HB.out GE273.out GE274.out))); have n9_ := Aside0.mk (Kd.R_lower (Kd.R_new' (Kd.R_new' (Kd.R_new' (Kd.R_new' ho1 (Kd.R_lt (qr HO279.out))) (Kd.R_lt (qr HO282.out))) (Kd.R_lt (qr HO291.out))) (Kd.R_lt (qr HO294.out))) (below_size (qb2 HB.out GE273.out GE274.out))); have n10_ := Aside0.mk (Kd.S_lower (Kd.S_new' (Kd.S_new' ho2 (Kd.S_lt (qs HO285.out))) (Kd.S_lt (qs HO297.out))) (below_size (qb2 HB.out GE273.out GE274.out))); have n11_ := Aside0.mk (Kd.S_lower (Kd.S_new' (Kd.S_new' ho3 (Kd.S_lt (qs HO288.out))) (Kd.S_lt (qs HO300.out))) (below_size (qb2 HB.out GE273.out GE274.out))); have n12_ := Aside0.mk (blk_below (g := gb273) (o := .cells #[.slice A0_0 l0_0.length c0_0, .slice A0_1 l0_1.length c0_1, .slice A0_2 l0_2.length c0_2, .slice A0_3 l0_3.length c0_3] 28 (0, 0)) (qk BK273.out) hb); have n13_ := Aside0.mk (blk_below (g := gb274) (o := .cells #[.slice A1_0 l1_0.length c1_0, .slice A1_1 l1_1.length c1_1, .slice A1_2 l1_2.length c1_2, .slice A1_3 l1_3.length c1_3] 28 (0, 0)) (qk BK274.out) hb); have n14_ := Aside0.mk (below_step (qb2 HB.out GE273.out GE274.out) hb); clear HO279; clear HO282; clear HO285; clear HO288; clear HO291; clear HO294; clear HO297; clear HO300; clear BK273; clear BK274; clear HB; have HO279 := n0_; have HO282 := n1_; have HO285 := n2_; have HO288 := n3_; have HO291 := n4_; have HO294 := n5_; have HO297 := n6_; have HO300 := n7_; have HO304 := n8_; have HO307 := n9_; have HO310 := n10_; have HO313 := n11_; have BK273 := n12_; have BK274 := n13_; have HB := n14_; clear n0_ n1_ n2_ n3_ n4_ n5_ n6_ n7_ n8_ n9_ n10_ n11_ n12_ n13_ n14_; (try clear hb); (try clear hb2); (try clear hk); (try clear hi); (try clear ho0); (try clear ho1); (try clear ho2); (try clear ho3)) | ((with_reducible refine gate_dst (N := 7) rfl ?_); refine box_event ?hg (N := 7) ?hd (cs := #[.slice none 0 0, .slice none 0 0, .slice none 0 0, .slice none 0 0]) (t := 39) ?hr ?_; (case hd => rfl); (case hg => rfl); (case hr => first | (go_simp; done) | (go_simp; rfl)); intro gb314 hg w53 hbox hb; have n0_ := Aside0.mk (Kd.R_below (qr HO279.out) hb); have n1_ := Aside0.mk (Kd.R_below (qr HO282.out) hb); have n2_ := Aside0.mk (Kd.S_below (qs HO285.out) hb); have n3_ := Aside0.mk (Kd.S_below (qs HO288.out) hb); have n4_ := Aside0.mk (Kd.R_below (qr HO291.out) hb); have n5_ := Aside0.mk (Kd.R_below (qr HO294.out) hb); have n6_ := Aside0.mk (Kd.S_below (qs HO297.out) hb); have n7_ := Aside0.mk (Kd.S_below (qs HO300.out) hb); have n8_ := Aside0.mk (Kd.R_below (qr HO304.out) hb); have n9_ := Aside0.mk (Kd.R_below (qr HO307.out) hb); have n10_ := Aside0.mk (Kd.S_below (qs HO310.out) hb); have n11_ := Aside0.mk (Kd.S_below (qs HO313.out) hb); have n12_ := Aside0.mk (blk_below (g := gb273) (o := .cells #[.slice A0_0 l0_0.length c0_0, .slice A0_1 l0_1.length c0_1, .slice A0_2 l0_2.length c0_2, .slice A0_3 l0_3.length c0_3] 28 (0, 0)) (qk BK273.out) hb); have n13_ := Aside0.mk (blk_below (g := gb274) (o := .cells #[.slice A1_0 l1_0.length c1_0, .slice A1_1 l1_1.length c1_1, .slice A1_2 l1_2.length c1_2, .slice A1_3 l1_3.length c1_3] 28 (0, 0)) (qk BK274.out) hb); have n14_ := Aside0.mk (below_step (qb2 HB.out GE273.out GE274.out) hb); have n15_ := Aside0.mk (hbox); have n16_ := Aside0.mk ((by rw [hg]; exact (below_size (qb2 HB.out GE273.out GE274.out)) : w.heap.size ≤ gb314)); have n17_ := Aside0.mk ((by rw [hg]; exact (below_size (qb2 HB.out GE273.out GE274.out)) : w.heap.size ≤ gb314)); have n18_ := Aside0.mk ((by rw [hg]; exact Nat.ne_of_lt (blk_lt (g := gb273) (o := .cells #[.slice A0_0 l0_0.length c0_0, .slice A0_1 l0_1.length c0_1, .slice A0_2 l0_2.length c0_2, .slice A0_3 l0_3.length c0_3] 28 (0, 0)) (qk BK273.out)) : gb273 ≠ gb314)); have n19_ := Aside0.mk ((by rw [hg]; exact Nat.ne_of_gt (blk_lt (g := gb273) (o := .cells #[.slice A0_0 l0_0.length c0_0, .slice A0_1 l0_1.length c0_1, .slice A0_2 l0_2.length c0_2, .slice A0_3 l0_3.length c0_3] 28 (0, 0)) (qk BK273.out)) : gb314 ≠ gb273)); have n20_ := Aside0.mk ((by rw [hg]; exact Nat.ne_of_lt (blk_lt (g := gb274) (o := .cells #[.slice A1_0 l1_0.length c1_0, .slice A1_1 l1_1.length c1_1, .slice A1_2 l1_2.length c1_2, .slice A1_3 l1_3.length c1_3] 28 (0, 0)) (qk BK274.out)) : gb274 ≠ gb314)); have n21_ := Aside0.mk ((by rw [hg]; exact Nat.ne_of_gt (blk_lt (g := gb274) (o := .cells #[.slice A1_0 l1_0.length c1_0, .slice A1_1 l1_1.length c1_1, .slice A1_2 l1_2.length c1_2, .slice A1_3 l1_3.length c1_3] 28 (0, 0)) (qk BK274.out)) : gb314 ≠ gb274)); clear HO279; clear HO282; clear HO285; clear HO288; clear HO291; clear HO294; clear HO297; clear HO300; clear HO304; clear HO307; clear HO310; clear HO313; clear BK273; clear BK274; clear HB; have HO279 := n0_; have HO282 := n1_; have HO285 := n2_; have HO288 := n3_; have HO291 := n4_; have HO294 := n5_; have HO297 := n6_; have HO300 := n7_; have HO304 := n8_; have HO307 := n9_; have HO310 := n10_; have HO313 := n11_; have BK273 := n12_; have BK274 := n13_; have HB := n14_; have BK314 := n15_; have GW314 := n16_; have GE314 := n17_; have NB273_314 := n18_; have NB314_273 := n19_; have NB274_314 := n20_; have NB314_274 := n21_; clear n0_ n1_ n2_ n3_ n4_ n5_ n6_ n7_ n8_ n9_ n10_ n11_ n12_ n13_ n14_ n15_ n16_ n17_ n18_ n19_ n20_ n21_; clear hb hbox hg; obtain ⟨Ao54, co54, eo54⟩ := Kd.R_slice HO304.out; subst eo54; have hnb55 := NB314_273.out; have hnc55 := NB273_314.out; have hnb56 := NB314_274.out; have hnc56 := NB274_314.out; have hcz57_0 : w53.cell? ⟨gb314, 0, none⟩ = some (.slice none 0 0) := (blk_cell BK314.out 0).trans rfl; have hcz57_1 : w53.cell? ⟨gb314, 1, none⟩ = some (.slice none 0 0) := (blk_cell BK314.out 1).trans rfl; have hcz57_2 : w53.cell? ⟨gb314, 2, none⟩ = some (.slice none 0 0) := (blk_cell BK314.out 2).trans rfl; have hcz57_3 : w53.cell? ⟨gb314, 3, none⟩ = some (.slice none 0 0) := (blk_cell BK314.out 3).trans rfl; have hfz57_0 := blk_frozen BK314.out 0; have hfz57_1 := blk_frozen BK314.out 1; have hfz57_2 := blk_frozen BK314.out 2; have hfz57_3 := blk_frozen BK314.out 3; obtain ⟨Ao58, co58, eo58⟩ := Kd.R_slice HO307.out; subst eo58; obtain ⟨Ao59, co59, eo59⟩ := Kd.S_slice HO310.out; subst eo59; obtain ⟨Ao60, co60, eo60⟩ := Kd.S_slice HO313.out; subst eo60; have hcz61_0 : w53.cell? ⟨gb274, 0, none⟩ = some (.slice A1_0 l1_0.length c1_0) := (blk_cell BK274.out 0).trans rfl; have hcz61_1 : w53.cell? ⟨gb274, 1, none⟩ = some (.slice A1_1 l1_1.length c1_1) := (blk_cell BK274.out 1).trans rfl; have hcz61_2 : w53.cell? ⟨gb274, 2, none⟩ = some (.slice A1_2 l1_2.length c1_2) := (blk_cell BK274.out 2).trans rfl; have hcz61_3 : w53.cell? ⟨gb274, 3, none⟩ = some (.slice A1_3 l1_3.length c1_3) := (blk_cell BK274.out 3).trans rfl; have hfz61_0 := blk_frozen BK274.out 0; have hfz61_1 := blk_frozen BK274.out 1; have hfz61_2 := blk_frozen BK274.out 2; have hfz61_3 := blk_frozen BK274.out 3) | ((with_reducible refine gate_callee (f := 16) rfl ?_); refine goesL_ (some 28) rfl rfl Try.func16 (by kernel_rfl) rfl #[.agg #[.slice A1_0 l1_0.length c1_0, .slice A1_1 l1_1.length c1_1, .slice A1_2 l1_2.length c1_2, .slice A1_3 l1_3.length c1_3]] rfl qm ?_; (with_reducible refine (laws_toDisk.calls k _ _ l1_0 _ _ l1_1 _ _ l1_2 _ _ l1_3 t315 t318 t321 t324 _ ?side1 ?side2 ?side3 ?side4 ?side5 ?side6 ?side7 ?side8 A23.out).mono ?_); (case side1 => exact Kd.C_below HR1_0.out (qb3 HB.out GE273.out GE274.out GE314.out)); (case side2 => exact HC1_0.out); (case side3 => exact Kd.C_below HR1_1.out (qb3 HB.out GE273.out GE274.out GE314.out)); (case side4 => exact HC1_1.out); (case side5 => exact Kd.C_below HR1_2.out (qb3 HB.out GE273.out GE274.out GE314.out)); (case side6 => exact HC1_2.out); (case side7 => exact Kd.C_below HR1_3.out (qb3 HB.out GE273.out GE274.out GE314.out)); (case side8 => exact HC1_3.out); rintro e w62 ⟨v316, v319, v322, v325, rfl, ho0, ho1, ho2, ho3, hb⟩; refine ⟨_, rfl, ?_⟩; have n0_ := Aside0.mk (Kd.R_mono (Kd.R_told (Kd.R_told (Kd.R_old (by refine qR ?_; exact (Kd.R_mono (Kd.R_far (p := ⟨gb314, 3, none⟩) (Kd.R_far (p := ⟨gb314, 2, none⟩) (Kd.R_far (p := ⟨gb314, 1, none⟩) (Kd.R_far (p := ⟨gb314, 0, none⟩) (Kd.R_types HO279.out BK314.out (by decide)) (fun _ hk => hk.2) (.slice Ao54 t302.length co54)) (fun _ hk => hk.2) (.slice Ao58 t305.length co58)) (fun _ hk => hk.2) (.slice Ao59 t308.length co59)) (fun _ hk => hk.2) (.slice Ao60 t311.length co60)) (fun _ h_ => h_.1))) hb) (Kd.R_base ho0)) (Kd.R_base ho1)) (fun _ h_ => h_.1)); have n1_ := Aside0.mk (Kd.R_mono (Kd.R_told (Kd.R_told (Kd.R_old (by refine qR ?_; exact (Kd.R_mono (Kd.R_far (p := ⟨gb314, 3, none⟩) (Kd.R_far (p := ⟨gb314, 2, none⟩) (Kd.R_far (p := ⟨gb314, 1, none⟩) (Kd.R_far (p := ⟨gb314, 0, none⟩) (Kd.R_types HO282.out BK314.out (by decide)) (fun _ hk => hk.2) (.slice Ao54 t302.length co54)) (fun _ hk => hk.2) (.slice Ao58 t305.length co58)) (fun _ hk => hk.2) (.slice Ao59 t308.length co59)) (fun _ hk => hk.2) (.slice Ao60 t311.length co60)) (fun _ h_ => h_.1))) hb) (Kd.R_base ho0)) (Kd.R_base ho1)) (fun _ h_ => h_.1)); have n2_ := Aside0.mk (Kd.S_elder' (by refine qS ?_; exact (Kd.S_mono (Kd.S_far (p := ⟨gb314, 3, none⟩) (Kd.S_far (p := ⟨gb314, 2, none⟩) (Kd.S_far (p := ⟨gb314, 1, none⟩) (Kd.S_far (p := ⟨gb314, 0, none⟩) (Kd.S_types HO285.out BK314.out (by decide)) (fun _ hk => hk.2) (.slice Ao54 t302.length co54)) (fun _ hk => hk.2) (.slice Ao58 t305.length co58)) (fun _ hk => hk.2) (.slice Ao59 t308.length co59)) (fun _ hk => hk.2) (.slice Ao60 t311.length co60)) (fun _ h_ => h_.1))) (Kd.S_base ho2) hb); have n3_ := Aside0.mk (Kd.S_elder' (by refine qS ?_; exact (Kd.S_mono (Kd.S_far (p := ⟨gb314, 3, none⟩) (Kd.S_far (p := ⟨gb314, 2, none⟩) (Kd.S_far (p := ⟨gb314, 1, none⟩) (Kd.S_far (p := ⟨gb314, 0, none⟩) (Kd.S_types HO288.out BK314.out (by decide)) (fun _ hk => hk.2) (.slice Ao54 t302.length co54)) (fun _ hk => hk.2) (.slice Ao58 t305.length co58)) (fun _ hk => hk.2) (.slice Ao59 t308.length co59)) (fun _ hk => hk.2) (.slice Ao60 t311.length co60)) (fun _ h_ => h_.1))) (Kd.S_base ho3) hb); have n4_ := Aside0.mk (Kd.R_mono (Kd.R_told (Kd.R_told (Kd.R_old (by refine qR ?_; exact (Kd.R_mono (Kd.R_far (p := ⟨gb314, 3, none⟩) (Kd.R_far (p := ⟨gb314, 2, none⟩) (Kd.R_far (p := ⟨gb314, 1, none⟩) (Kd.R_far (p := ⟨gb314, 0, none⟩) (Kd.R_types HO291.out BK314.out (by decide)) (fun _ hk => hk.2) (.slice Ao54 t302.length co54)) (fun _ hk => hk.2) (.slice Ao58 t305.length co58)) (fun _ hk => hk.2) (.slice Ao59 t308.length co59)) (fun _ hk => hk.2) (.slice Ao60 t311.length co60)) (fun _ h_ => h_.1))) hb) (Kd.R_base ho0)) (Kd.R_base ho1)) (fun _ h_ => h_.1)); have n5_ := Aside0.mk (Kd.R_mono (Kd.R_told (Kd.R_told (Kd.R_old (by refine qR ?_; exact (Kd.R_mono (Kd.R_far (p := ⟨gb314, 3, none⟩) (Kd.R_far (p := ⟨gb314, 2, none⟩) (Kd.R_far (p := ⟨gb314, 1, none⟩) (Kd.R_far (p := ⟨gb314, 0, none⟩) (Kd.R_types HO294.out BK314.out (by decide)) (fun _ hk => hk.2) (.slice Ao54 t302.length co54)) (fun _ hk => hk.2) (.slice Ao58 t305.length co58)) (fun _ hk => hk.2) (.slice Ao59 t308.length co59)) (fun _ hk => hk.2) (.slice Ao60 t311.length co60)) (fun _ h_ => h_.1))) hb) (Kd.R_base ho0)) (Kd.R_base ho1)) (fun _ h_ => h_.1)); have n6_ := Aside0.mk (Kd.S_elder' (by refine qS ?_; exact (Kd.S_mono (Kd.S_far (p := ⟨gb314, 3, none⟩) (Kd.S_far (p := ⟨gb314, 2, none⟩) (Kd.S_far (p := ⟨gb314, 1, none⟩) (Kd.S_far (p := ⟨gb314, 0, none⟩) (Kd.S_types HO297.out BK314.out (by decide)) (fun _ hk => hk.2) (.slice Ao54 t302.length co54)) (fun _ hk => hk.2) (.slice Ao58 t305.length co58)) (fun _ hk => hk.2) (.slice Ao59 t308.length co59)) (fun _ hk => hk.2) (.slice Ao60 t311.length co60)) (fun _ h_ => h_.1))) (Kd.S_base ho2) hb); have n7_ := Aside0.mk (Kd.S_elder' (by refine qS ?_; exact (Kd.S_mono (Kd.S_far (p := ⟨gb314, 3, none⟩) (Kd.S_far (p := ⟨gb314, 2, none⟩) (Kd.S_far (p := ⟨gb314, 1, none⟩) (Kd.S_far (p := ⟨gb314, 0, none⟩) (Kd.S_types HO300.out BK314.out (by decide)) (fun _ hk => hk.2) (.slice Ao54 t302.length co54)) (fun _ hk => hk.2) (.slice Ao58 t305.length co58)) (fun _ hk => hk.2) (.slice Ao59 t308.length co59)) (fun _ hk => hk.2) (.slice Ao60 t311.length co60)) (fun _ h_ => h_.1))) (Kd.S_base ho3) hb); have n8_ := Aside0.mk (Kd.R_mono (Kd.R_told (Kd.R_told (Kd.R_old (by refine qR ?_; exact (Kd.R_mono (Kd.R_far (p := ⟨gb314, 3, none⟩) (Kd.R_far (p := ⟨gb314, 2, none⟩) (Kd.R_far (p := ⟨gb314, 1, none⟩) (Kd.R_far (p := ⟨gb314, 0, none⟩) (Kd.R_types HO304.out BK314.out (by decide)) (fun _ hk => hk.2) (.slice Ao54 t302.length co54)) (fun _ hk => hk.2) (.slice Ao58 t305.length co58)) (fun _ hk => hk.2) (.slice Ao59 t308.length co59)) (fun _ hk => hk.2) (.slice Ao60 t311.length co60)) (fun _ h_ => h_.1))) hb) (Kd.R_base ho0)) (Kd.R_base ho1)) (fun _ h_ => h_.1)); have n9_ := Aside0.mk (Kd.R_mono (Kd.R_told (Kd.R_told (Kd.R_old (by refine qR ?_; exact (Kd.R_mono (Kd.R_far (p := ⟨gb314, 3, none⟩) (Kd.R_far (p := ⟨gb314, 2, none⟩) (Kd.R_far (p := ⟨gb314, 1, none⟩) (Kd.R_far (p := ⟨gb314, 0, none⟩) (Kd.R_types HO307.out BK314.out (by decide)) (fun _ hk => hk.2) (.slice Ao54 t302.length co54)) (fun _ hk => hk.2) (.slice Ao58 t305.length co58)) (fun _ hk => hk.2) (.slice Ao59 t308.length co59)) (fun _ hk => hk.2) (.slice Ao60 t311.length co60)) (fun _ h_ => h_.1))) hb) (Kd.R_base ho0)) (Kd.R_base ho1)) (fun _ h_ => h_.1)); have n10_ := Aside0.mk (Kd.S_elder' (by refine qS ?_; exact (Kd.S_mono (Kd.S_far (p := ⟨gb314, 3, none⟩) (Kd.S_far (p := ⟨gb314, 2, none⟩) (Kd.S_far (p := ⟨gb314, 1, none⟩) (Kd.S_far (p := ⟨gb314, 0, none⟩) (Kd.S_types HO310.out BK314.out (by decide)) (fun _ hk => hk.2) (.slice Ao54 t302.length co54)) (fun _ hk => hk.2) (.slice Ao58 t305.length co58)) (fun _ hk => hk.2) (.slice Ao59 t308.length co59)) (fun _ hk => hk.2) (.slice Ao60 t311.length co60)) (fun _ h_ => h_.1))) (Kd.S_base ho2) hb); have n11_ := Aside0.mk (Kd.S_elder' (by refine qS ?_; exact (Kd.S_mono (Kd.S_far (p := ⟨gb314, 3, none⟩) (Kd.S_far (p := ⟨gb314, 2, none⟩) (Kd.S_far (p := ⟨gb314, 1, none⟩) (Kd.S_far (p := ⟨gb314, 0, none⟩) (Kd.S_types HO313.out BK314.out (by decide)) (fun _ hk => hk.2) (.slice Ao54 t302.length co54)) (fun _ hk => hk.2) (.slice Ao58 t305.length co58)) (fun _ hk => hk.2) (.slice Ao59 t308.length co59)) (fun _ hk => hk.2) (.slice Ao60 t311.length co60)) (fun _ h_ => h_.1))) (Kd.S_base ho3) hb); have n12_ := Aside0.mk (Kd.R_lower (Kd.R_new' (Kd.R_new' (Kd.R_new' (Kd.R_new' (Kd.R_new' (Kd.R_new' ho0 (Kd.R_lt (by refine qR ?_; exact (Kd.R_mono (Kd.R_far (p := ⟨gb314, 3, none⟩) (Kd.R_far (p := ⟨gb314, 2, none⟩) (Kd.R_far (p := ⟨gb314, 1, none⟩) (Kd.R_far (p := ⟨gb314, 0, none⟩) (Kd.R_types HO279.out BK314.out (by decide)) (fun _ hk => hk.2) (.slice Ao54 t302.length co54)) (fun _ hk => hk.2) (.slice Ao58 t305.length co58)) (fun _ hk => hk.2) (.slice Ao59 t308.length co59)) (fun _ hk => hk.2) (.slice Ao60 t311.length co60)) (fun _ h_ => h_.1))))) (Kd.R_lt (by refine qR ?_; exact (Kd.R_mono (Kd.R_far (p := ⟨gb314, 3, none⟩) (Kd.R_far (p := ⟨gb314, 2, none⟩) (Kd.R_far (p := ⟨gb314, 1, none⟩) (Kd.R_far (p := ⟨gb314, 0, none⟩) (Kd.R_types HO282.out BK314.out (by decide)) (fun _ hk => hk.2) (.slice Ao54 t302.length co54)) (fun _ hk => hk.2) (.slice Ao58 t305.length co58)) (fun _ hk => hk.2) (.slice Ao59 t308.length co59)) (fun _ hk => hk.2) (.slice Ao60 t311.length co60)) (fun _ h_ => h_.1))))) (Kd.R_lt (by refine qR ?_; exact (Kd.R_mono (Kd.R_far (p := ⟨gb314, 3, none⟩) (Kd.R_far (p := ⟨gb314, 2, none⟩) (Kd.R_far (p := ⟨gb314, 1, none⟩) (Kd.R_far (p := ⟨gb314, 0, none⟩) (Kd.R_types HO291.out BK314.out (by decide)) (fun _ hk => hk.2) (.slice Ao54 t302.length co54)) (fun _ hk => hk.2) (.slice Ao58 t305.length co58)) (fun _ hk => hk.2) (.slice Ao59 t308.length co59)) (fun _ hk => hk.2) (.slice Ao60 t311.length co60)) (fun _ h_ => h_.1))))) (Kd.R_lt (by refine qR ?_; exact (Kd.R_mono (Kd.R_far (p := ⟨gb314, 3, none⟩) (Kd.R_far (p := ⟨gb314, 2, none⟩) (Kd.R_far (p := ⟨gb314, 1, none⟩) (Kd.R_far (p := ⟨gb314, 0, none⟩) (Kd.R_types HO294.out BK314.out (by decide)) (fun _ hk => hk.2) (.slice Ao54 t302.length co54)) (fun _ hk => hk.2) (.slice Ao58 t305.length co58)) (fun _ hk => hk.2) (.slice Ao59 t308.length co59)) (fun _ hk => hk.2) (.slice Ao60 t311.length co60)) (fun _ h_ => h_.1))))) (Kd.R_lt (by refine qR ?_; exact (Kd.R_mono (Kd.R_far (p := ⟨gb314, 3, none⟩) (Kd.R_far (p := ⟨gb314, 2, none⟩) (Kd.R_far (p := ⟨gb314, 1, none⟩) (Kd.R_far (p := ⟨gb314, 0, none⟩) (Kd.R_types HO304.out BK314.out (by decide)) (fun _ hk => hk.2) (.slice Ao54 t302.length co54)) (fun _ hk => hk.2) (.slice Ao58 t305.length co58)) (fun _ hk => hk.2) (.slice Ao59 t308.length co59)) (fun _ hk => hk.2) (.slice Ao60 t311.length co60)) (fun _ h_ => h_.1))))) (Kd.R_lt (by refine qR ?_; exact (Kd.R_mono (Kd.R_far (p := ⟨gb314, 3, none⟩) (Kd.R_far (p := ⟨gb314, 2, none⟩) (Kd.R_far (p := ⟨gb314, 1, none⟩) (Kd.R_far (p := ⟨gb314, 0, none⟩) (Kd.R_types HO307.out BK314.out (by decide)) (fun _ hk => hk.2) (.slice Ao54 t302.length co54)) (fun _ hk => hk.2) (.slice Ao58 t305.length co58)) (fun _ hk => hk.2) (.slice Ao59 t308.length co59)) (fun _ hk => hk.2) (.slice Ao60 t311.length co60)) (fun _ h_ => h_.1))))) (below_size (qb3 HB.out GE273.out GE274.out GE314.out))); have n13_ := Aside0.mk (Kd.R_lower (Kd.R_new' (Kd.R_new' (Kd.R_new' (Kd.R_new' (Kd.R_new' (Kd.R_new' ho1 (Kd.R_lt (by refine qR ?_; exact (Kd.R_mono (Kd.R_far (p := ⟨gb314, 3, none⟩) (Kd.R_far (p := ⟨gb314, 2, none⟩) (Kd.R_far (p := ⟨gb314, 1, none⟩) (Kd.R_far (p := ⟨gb314, 0, none⟩) (Kd.R_types HO279.out BK314.out (by decide)) (fun _ hk => hk.2) (.slice Ao54 t302.length co54)) (fun _ hk => hk.2) (.slice Ao58 t305.length co58)) (fun _ hk => hk.2) (.slice Ao59 t308.length co59)) (fun _ hk => hk.2) (.slice Ao60 t311.length co60)) (fun _ h_ => h_.1))))) (Kd.R_lt (by refine qR ?_; exact (Kd.R_mono (Kd.R_far (p := ⟨gb314, 3, none⟩) (Kd.R_far (p := ⟨gb314, 2, none⟩) (Kd.R_far (p := ⟨gb314, 1, none⟩) (Kd.R_far (p := ⟨gb314, 0, none⟩) (Kd.R_types HO282.out BK314.out (by decide)) (fun _ hk => hk.2) (.slice Ao54 t302.length co54)) (fun _ hk => hk.2) (.slice Ao58 t305.length co58)) (fun _ hk => hk.2) (.slice Ao59 t308.length co59)) (fun _ hk => hk.2) (.slice Ao60 t311.length co60)) (fun _ h_ => h_.1))))) (Kd.R_lt (by refine qR ?_; exact (Kd.R_mono (Kd.R_far (p := ⟨gb314, 3, none⟩) (Kd.R_far (p := ⟨gb314, 2, none⟩) (Kd.R_far (p := ⟨gb314, 1, none⟩) (Kd.R_far (p := ⟨gb314, 0, none⟩) (Kd.R_types HO291.out BK314.out (by decide)) (fun _ hk => hk.2) (.slice Ao54 t302.length co54)) (fun _ hk => hk.2) (.slice Ao58 t305.length co58)) (fun _ hk => hk.2) (.slice Ao59 t308.length co59)) (fun _ hk => hk.2) (.slice Ao60 t311.length co60)) (fun _ h_ => h_.1))))) (Kd.R_lt (by refine qR ?_; exact (Kd.R_mono (Kd.R_far (p := ⟨gb314, 3, none⟩) (Kd.R_far (p := ⟨gb314, 2, none⟩) (Kd.R_far (p := ⟨gb314, 1, none⟩) (Kd.R_far (p := ⟨gb314, 0, none⟩) (Kd.R_types HO294.out BK314.out (by decide)) (fun _ hk => hk.2) (.slice Ao54 t302.length co54)) (fun _ hk => hk.2) (.slice Ao58 t305.length co58)) (fun _ hk => hk.2) (.slice Ao59 t308.length co59)) (fun _ hk => hk.2) (.slice Ao60 t311.length co60)) (fun _ h_ => h_.1))))) (Kd.R_lt (by refine qR ?_; exact (Kd.R_mono (Kd.R_far (p := ⟨gb314, 3, none⟩) (Kd.R_far (p := ⟨gb314, 2, none⟩) (Kd.R_far (p := ⟨gb314, 1, none⟩) (Kd.R_far (p := ⟨gb314, 0, none⟩) (Kd.R_types HO304.out BK314.out (by decide)) (fun _ hk => hk.2) (.slice Ao54 t302.length co54)) (fun _ hk => hk.2) (.slice Ao58 t305.length co58)) (fun _ hk => hk.2) (.slice Ao59 t308.length co59)) (fun _ hk => hk.2) (.slice Ao60 t311.length co60)) (fun _ h_ => h_.1))))) (Kd.R_lt (by refine qR ?_; exact (Kd.R_mono (Kd.R_far (p := ⟨gb314, 3, none⟩) (Kd.R_far (p := ⟨gb314, 2, none⟩) (Kd.R_far (p := ⟨gb314, 1, none⟩) (Kd.R_far (p := ⟨gb314, 0, none⟩) (Kd.R_types HO307.out BK314.out (by decide)) (fun _ hk => hk.2) (.slice Ao54 t302.length co54)) (fun _ hk => hk.2) (.slice Ao58 t305.length co58)) (fun _ hk => hk.2) (.slice Ao59 t308.length co59)) (fun _ hk => hk.2) (.slice Ao60 t311.length co60)) (fun _ h_ => h_.1))))) (below_size (qb3 HB.out GE273.out GE274.out GE314.out))); have n14_ := Aside0.mk (Kd.S_lower (Kd.S_new' (Kd.S_new' (Kd.S_new' ho2 (Kd.S_lt (by refine qS ?_; exact (Kd.S_mono (Kd.S_far (p := ⟨gb314, 3, none⟩) (Kd.S_far (p := ⟨gb314, 2, none⟩) (Kd.S_far (p := ⟨gb314, 1, none⟩) (Kd.S_far (p := ⟨gb314, 0, none⟩) (Kd.S_types HO285.out BK314.out (by decide)) (fun _ hk => hk.2) (.slice Ao54 t302.length co54)) (fun _ hk => hk.2) (.slice Ao58 t305.length co58)) (fun _ hk => hk.2) (.slice Ao59 t308.length co59)) (fun _ hk => hk.2) (.slice Ao60 t311.length co60)) (fun _ h_ => h_.1))))) (Kd.S_lt (by refine qS ?_; exact (Kd.S_mono (Kd.S_far (p := ⟨gb314, 3, none⟩) (Kd.S_far (p := ⟨gb314, 2, none⟩) (Kd.S_far (p := ⟨gb314, 1, none⟩) (Kd.S_far (p := ⟨gb314, 0, none⟩) (Kd.S_types HO297.out BK314.out (by decide)) (fun _ hk => hk.2) (.slice Ao54 t302.length co54)) (fun _ hk => hk.2) (.slice Ao58 t305.length co58)) (fun _ hk => hk.2) (.slice Ao59 t308.length co59)) (fun _ hk => hk.2) (.slice Ao60 t311.length co60)) (fun _ h_ => h_.1))))) (Kd.S_lt (by refine qS ?_; exact (Kd.S_mono (Kd.S_far (p := ⟨gb314, 3, none⟩) (Kd.S_far (p := ⟨gb314, 2, none⟩) (Kd.S_far (p := ⟨gb314, 1, none⟩) (Kd.S_far (p := ⟨gb314, 0, none⟩) (Kd.S_types HO310.out BK314.out (by decide)) (fun _ hk => hk.2) (.slice Ao54 t302.length co54)) (fun _ hk => hk.2) (.slice Ao58 t305.length co58)) (fun _ hk => hk.2) (.slice Ao59 t308.length co59)) (fun _ hk => hk.2) (.slice Ao60 t311.length co60)) (fun _ h_ => h_.1))))) (below_size (qb3 HB.out GE273.out GE274.out GE314.out))); have n15_ := Aside0.mk (Kd.S_lower (Kd.S_new' (Kd.S_new' (Kd.S_new' ho3 (Kd.S_lt (by refine qS ?_; exact (Kd.S_mono (Kd.S_far (p := ⟨gb314, 3, none⟩) (Kd.S_far (p := ⟨gb314, 2, none⟩) (Kd.S_far (p := ⟨gb314, 1, none⟩) (Kd.S_far (p := ⟨gb314, 0, none⟩) (Kd.S_types HO288.out BK314.out (by decide)) (fun _ hk => hk.2) (.slice Ao54 t302.length co54)) (fun _ hk => hk.2) (.slice Ao58 t305.length co58)) (fun _ hk => hk.2) (.slice Ao59 t308.length co59)) (fun _ hk => hk.2) (.slice Ao60 t311.length co60)) (fun _ h_ => h_.1))))) (Kd.S_lt (by refine qS ?_; exact (Kd.S_mono (Kd.S_far (p := ⟨gb314, 3, none⟩) (Kd.S_far (p := ⟨gb314, 2, none⟩) (Kd.S_far (p := ⟨gb314, 1, none⟩) (Kd.S_far (p := ⟨gb314, 0, none⟩) (Kd.S_types HO300.out BK314.out (by decide)) (fun _ hk => hk.2) (.slice Ao54 t302.length co54)) (fun _ hk => hk.2) (.slice Ao58 t305.length co58)) (fun _ hk => hk.2) (.slice Ao59 t308.length co59)) (fun _ hk => hk.2) (.slice Ao60 t311.length co60)) (fun _ h_ => h_.1))))) (Kd.S_lt (by refine qS ?_; exact (Kd.S_mono (Kd.S_far (p := ⟨gb314, 3, none⟩) (Kd.S_far (p := ⟨gb314, 2, none⟩) (Kd.S_far (p := ⟨gb314, 1, none⟩) (Kd.S_far (p := ⟨gb314, 0, none⟩) (Kd.S_types HO313.out BK314.out (by decide)) (fun _ hk => hk.2) (.slice Ao54 t302.length co54)) (fun _ hk => hk.2) (.slice Ao58 t305.length co58)) (fun _ hk => hk.2) (.slice Ao59 t308.length co59)) (fun _ hk => hk.2) (.slice Ao60 t311.length co60)) (fun _ h_ => h_.1))))) (below_size (qb3 HB.out GE273.out GE274.out GE314.out))); have n16_ := Aside0.mk (blk_below (g := gb273) (o := .cells #[.slice A0_0 l0_0.length c0_0, .slice A0_1 l0_1.length c0_1, .slice A0_2 l0_2.length c0_2, .slice A0_3 l0_3.length c0_3] 28 (0, 0)) (by refine qK ?_; refine blk_far ?_ NB273_314.out _; refine qK ?_; refine blk_far ?_ NB273_314.out _; refine qK ?_; refine blk_far ?_ NB273_314.out _; refine qK ?_; refine blk_far ?_ NB273_314.out _; refine qK ?_; exact BK273.out) hb); have n17_ := Aside0.mk (blk_below (g := gb274) (o := .cells #[.slice A1_0 l1_0.length c1_0, .slice A1_1 l1_1.length c1_1, .slice A1_2 l1_2.length c1_2, .slice A1_3 l1_3.length c1_3] 28 (0, 0)) (by refine qK ?_; refine blk_far ?_ NB274_314.out _; refine qK ?_; refine blk_far ?_ NB274_314.out _; refine qK ?_; refine blk_far ?_ NB274_314.out _; refine qK ?_; refine blk_far ?_ NB274_314.out _; refine qK ?_; exact BK274.out) hb); have n18_ := Aside0.mk (blk_below (g := gb314) (o := .cells #[.slice Ao54 t302.length co54, .slice Ao58 t305.length co58, .slice Ao59 t308.length co59, .slice Ao60 t311.length co60] 39 (0, 0)) (by refine qK ?_; refine blk_put (cs := #[.slice Ao54 t302.length co54, .slice Ao58 t305.length co58, .slice Ao59 t308.length co59, .slice none 0 0]) ?_ 3 _ rfl; refine qK ?_; refine blk_put (cs := #[.slice Ao54 t302.length co54, .slice Ao58 t305.length co58, .slice none 0 0, .slice none 0 0]) ?_ 2 _ rfl; refine qK ?_; refine blk_put (cs := #[.slice Ao54 t302.length co54, .slice none 0 0, .slice none 0 0, .slice none 0 0]) ?_ 1 _ rfl; refine qK ?_; refine blk_put (cs := #[.slice none 0 0, .slice none 0 0, .slice none 0 0, .slice none 0 0]) ?_ 0 _ rfl; refine qK ?_; exact BK314.out) hb); have n19_ := Aside0.mk (below_step (qb3 HB.out GE273.out GE274.out GE314.out) hb); clear HO279; clear HO282; clear HO285; clear HO288; clear HO291; clear HO294; clear HO297; clear HO300; clear HO304; clear HO307; clear HO310; clear HO313; clear BK273; clear BK274; clear BK314; clear HB; have HO279 := n0_; have HO282 := n1_; have HO285 := n2_; have HO288 := n3_; have HO291 := n4_; have HO294 := n5_; have HO297 := n6_; have HO300 := n7_; have HO304 := n8_; have HO307 := n9_; have HO310 := n10_; have HO313 := n11_; have HO317 := n12_; have HO320 := n13_; have HO323 := n14_; have HO326 := n15_; have BK273 := n16_; have BK274 := n17_; have BK314 := n18_; have HB := n19_; clear n0_ n1_ n2_ n3_ n4_ n5_ n6_ n7_ n8_ n9_ n10_ n11_ n12_ n13_ n14_ n15_ n16_ n17_ n18_ n19_; (try clear hb); (try clear hb2); (try clear hk); (try clear hi); (try clear ho0); (try clear ho1); (try clear ho2); (try clear ho3)) | ((with_reducible refine gate_dst (N := 8) rfl ?_); refine box_event ?hg (N := 8) ?hd (cs := #[.slice none 0 0, .slice none 0 0, .slice none 0 0, .slice none 0 0]) (t := 39) ?hr ?_; (case hd => rfl); (case hg => rfl); (case hr => first | (go_simp; done) | (go_simp; rfl)); intro gb327 hg w63 hbox hb; have n0_ := Aside0.mk (Kd.R_below (qr HO279.out) hb); have n1_ := Aside0.mk (Kd.R_below (qr HO282.out) hb); have n2_ := Aside0.mk (Kd.S_below (qs HO285.out) hb); have n3_ := Aside0.mk (Kd.S_below (qs HO288.out) hb); have n4_ := Aside0.mk (Kd.R_below (qr HO291.out) hb); have n5_ := Aside0.mk (Kd.R_below (qr HO294.out) hb); have n6_ := Aside0.mk (Kd.S_below (qs HO297.out) hb); have n7_ := Aside0.mk (Kd.S_below (qs HO300.out) hb); have n8_ := Aside0.mk (Kd.R_below (qr HO304.out) hb); have n9_ := Aside0.mk (Kd.R_below (qr HO307.out) hb); have n10_ := Aside0.mk (Kd.S_below (qs HO310.out) hb); have n11_ := Aside0.mk (Kd.S_below (qs HO313.out) hb); have n12_ := Aside0.mk (Kd.R_below (qr HO317.out) hb); have n13_ := Aside0.mk (Kd.R_below (qr HO320.out) hb); have n14_ := Aside0.mk (Kd.S_below (qs HO323.out) hb); have n15_ := Aside0.mk (Kd.S_below (qs HO326.out) hb); have n16_ := Aside0.mk (blk_below (g := gb273) (o := .cells #[.slice A0_0 l0_0.length c0_0, .slice A0_1 l0_1.length c0_1, .slice A0_2 l0_2.length c0_2, .slice A0_3 l0_3.length c0_3] 28 (0, 0)) (qk BK273.out) hb); have n17_ := Aside0.mk (blk_below (g := gb274) (o := .cells #[.slice A1_0 l1_0.length c1_0, .slice A1_1 l1_1.length c1_1, .slice A1_2 l1_2.length c1_2, .slice A1_3 l1_3.length c1_3] 28 (0, 0)) (qk BK274.out) hb); have n18_ := Aside0.mk (blk_below (g := gb314) (o := .cells #[.slice Ao54 t302.length co54, .slice Ao58 t305.length co58, .slice Ao59 t308.length co59, .slice Ao60 t311.length co60] 39 (0, 0)) (qk BK314.out) hb); have n19_ := Aside0.mk (below_step (qb3 HB.out GE273.out GE274.out GE314.out) hb); have n20_ := Aside0.mk (hbox); have n21_ := Aside0.mk ((by rw [hg]; exact (below_size (qb3 HB.out GE273.out GE274.out GE314.out)) : w.heap.size ≤ gb327)); have n22_ := Aside0.mk ((by rw [hg]; exact (below_size (qb3 HB.out GE273.out GE274.out GE314.out)) : w.heap.size ≤ gb327)); have n23_ := Aside0.mk ((by rw [hg]; exact Nat.ne_of_lt (blk_lt (g := gb273) (o := .cells #[.slice A0_0 l0_0.length c0_0, .slice A0_1 l0_1.length c0_1, .slice A0_2 l0_2.length c0_2, .slice A0_3 l0_3.length c0_3] 28 (0, 0)) (qk BK273.out)) : gb273 ≠ gb327)); have n24_ := Aside0.mk ((by rw [hg]; exact Nat.ne_of_gt (blk_lt (g := gb273) (o := .cells #[.slice A0_0 l0_0.length c0_0, .slice A0_1 l0_1.length c0_1, .slice A0_2 l0_2.length c0_2, .slice A0_3 l0_3.length c0_3] 28 (0, 0)) (qk BK273.out)) : gb327 ≠ gb273)); have n25_ := Aside0.mk ((by rw [hg]; exact Nat.ne_of_lt (blk_lt (g := gb274) (o := .cells #[.slice A1_0 l1_0.length c1_0, .slice A1_1 l1_1.length c1_1, .slice A1_2 l1_2.length c1_2, .slice A1_3 l1_3.length c1_3] 28 (0, 0)) (qk BK274.out)) : gb274 ≠ gb327)); have n26_ := Aside0.mk ((by rw [hg]; exact Nat.ne_of_gt (blk_lt (g := gb274) (o := .cells #[.slice A1_0 l1_0.length c1_0, .slice A1_1 l1_1.length c1_1, .slice A1_2 l1_2.length c1_2, .slice A1_3 l1_3.length c1_3] 28 (0, 0)) (qk BK274.out)) : gb327 ≠ gb274)); have n27_ := Aside0.mk ((by rw [hg]; exact Nat.ne_of_lt (blk_lt (g := gb314) (o := .cells #[.slice Ao54 t302.length co54, .slice Ao58 t305.length co58, .slice Ao59 t308.length co59, .slice Ao60 t311.length co60] 39 (0, 0)) (qk BK314.out)) : gb314 ≠ gb327)); have n28_ := Aside0.mk ((by rw [hg]; exact Nat.ne_of_gt (blk_lt (g := gb314) (o := .cells #[.slice Ao54 t302.length co54, .slice Ao58 t305.length co58, .slice Ao59 t308.length co59, .slice Ao60 t311.length co60] 39 (0, 0)) (qk BK314.out)) : gb327 ≠ gb314)); clear HO279; clear HO282; clear HO285; clear HO288; clear HO291; clear HO294; clear HO297; clear HO300; clear HO304; clear HO307; clear HO310; clear HO313; clear HO317; clear HO320; clear HO323; clear HO326; clear BK273; clear BK274; clear BK314; clear HB; have HO279 := n0_; have HO282 := n1_; have HO285 := n2_; have HO288 := n3_; have HO291 := n4_; have HO294 := n5_; have HO297 := n6_; have HO300 := n7_; have HO304 := n8_; have HO307 := n9_; have HO310 := n10_; have HO313 := n11_; have HO317 := n12_; have HO320 := n13_; have HO323 := n14_; have HO326 := n15_; have BK273 := n16_; have BK274 := n17_; have BK314 := n18_; have HB := n19_; have BK327 := n20_; have GW327 := n21_; have GE327 := n22_; have NB273_327 := n23_; have NB327_273 := n24_; have NB274_327 := n25_; have NB327_274 := n26_; have NB314_327 := n27_; have NB327_314 := n28_; clear n0_ n1_ n2_ n3_ n4_ n5_ n6_ n7_ n8_ n9_ n10_ n11_ n12_ n13_ n14_ n15_ n16_ n17_ n18_ n19_ n20_ n21_ n22_ n23_ n24_ n25_ n26_ n27_ n28_; clear hb hbox hg; obtain ⟨Ao64, co64, eo64⟩ := Kd.R_slice HO317.out; subst eo64; have hnb65 := NB327_273.out; have hnc65 := NB273_327.out; have hnb66 := NB327_274.out; have hnc66 := NB274_327.out; have hnb67 := NB327_314.out; have hnc67 := NB314_327.out; have hcz68_0 : w63.cell? ⟨gb327, 0, none⟩ = some (.slice none 0 0) := (blk_cell BK327.out 0).trans rfl; have hcz68_1 : w63.cell? ⟨gb327, 1, none⟩ = some (.slice none 0 0) := (blk_cell BK327.out 1).trans rfl; have hcz68_2 : w63.cell? ⟨gb327, 2, none⟩ = some (.slice none 0 0) := (blk_cell BK327.out 2).trans rfl; have hcz68_3 : w63.cell? ⟨gb327, 3, none⟩ = some (.slice none 0 0) := (blk_cell BK327.out 3).trans rfl; have hfz68_0 := blk_frozen BK327.out 0; have hfz68_1 := blk_frozen BK327.out 1; have hfz68_2 := blk_frozen BK327.out 2; have hfz68_3 := blk_frozen BK327.out 3; obtain ⟨Ao69, co69, eo69⟩ := Kd.R_slice HO320.out; subst eo69; obtain ⟨Ao70, co70, eo70⟩ := Kd.S_slice HO323.out; subst eo70; obtain ⟨Ao71, co71, eo71⟩ := Kd.S_slice HO326.out; subst eo71; have hcz72_0 : w63.cell? ⟨gb314, 0, none⟩ = some (.slice Ao54 t302.length co54) := (blk_cell BK314.out 0).trans rfl; have hcz72_1 : w63.cell? ⟨gb314, 1, none⟩ = some (.slice Ao58 t305.length co58) := (blk_cell BK314.out 1).trans rfl; have hcz72_2 : w63.cell? ⟨gb314, 2, none⟩ = some (.slice Ao59 t308.length co59) := (blk_cell BK314.out 2).trans rfl; have hcz72_3 : w63.cell? ⟨gb314, 3, none⟩ = some (.slice Ao60 t311.length co60) := (blk_cell BK314.out 3).trans rfl; have hfz72_0 := blk_frozen BK314.out 0; have hfz72_1 := blk_frozen BK314.out 1; have hfz72_2 := blk_frozen BK314.out 2; have hfz72_3 := blk_frozen BK314.out 3) | ((with_reducible refine gate_callee (f := 52) rfl ?_); refine goesL_ (some 31) rfl rfl Try.func52 (by kernel_rfl) rfl #[.agg #[.slice Ao54 t302.length co54, .slice Ao58 t305.length co58, .slice Ao59 t308.length co59, .slice Ao60 t311.length co60], .agg #[.slice Ao64 t315.length co64, .slice Ao69 t318.length co69, .slice Ao70 t321.length co70, .slice Ao71 t324.length co71]] rfl qm ?_; (with_reducible refine (impl_SameDisk.calls k _ _ t302 _ _ t305 _ _ t308 _ _ t311 _ _ t315 _ _ t318 _ _ t321 _ _ t324 t328 _ ?side1 ?side2 ?side3 ?side4 ?side5 ?side6 ?side7 ?side8 ?side9 ?side10 ?side11 ?side12 ?side13 ?side14 ?side15 ?side16 A24.out).mono ?_); (case side1 => refine (Kd.R_reads' (e := 4) (base := w.heap.size) (ok := fun k_ => ((((((some k_ ≠ (.slice Ao58 t305.length co58 : Value).ownBlock ∧ some k_ ≠ (.slice Ao42 t277.length co42 : Value).ownBlock) ∧ some k_ ≠ (.slice Ao43 t280.length co43 : Value).ownBlock) ∧ some k_ ≠ (.slice Ao46 t289.length co46 : Value).ownBlock) ∧ some k_ ≠ (.slice Ao47 t292.length co47 : Value).ownBlock) ∧ some k_ ≠ (.slice Ao64 t315.length co64 : Value).ownBlock) ∧ some k_ ≠ (.slice Ao69 t318.length co69 : Value).ownBlock)) (n := t302.length) (c := co54) ?_).2.2; exact (by refine qR ?_; exact (Kd.R_mono (Kd.R_far (p := ⟨gb327, 3, none⟩) (Kd.R_far (p := ⟨gb327, 2, none⟩) (Kd.R_far (p := ⟨gb327, 1, none⟩) (Kd.R_far (p := ⟨gb327, 0, none⟩) (Kd.R_types HO304.out BK327.out (by decide)) (fun _ hk => hk.2) (.slice Ao64 t315.length co64)) (fun _ hk => hk.2) (.slice Ao69 t318.length co69)) (fun _ hk => hk.2) (.slice Ao70 t321.length co70)) (fun _ hk => hk.2) (.slice Ao71 t324.length co71)) (fun _ h_ => h_.1)))); (case side2 => exact (Kd.R_reads' HO304.out).2.1); (case side3 => refine (Kd.R_reads' (e := 4) (base := w.heap.size) (ok := fun k_ => ((((((some k_ ≠ (.slice Ao54 t302.length co54 : Value).ownBlock ∧ some k_ ≠ (.slice Ao42 t277.length co42 : Value).ownBlock) ∧ some k_ ≠ (.slice Ao43 t280.length co43 : Value).ownBlock) ∧ some k_ ≠ (.slice Ao46 t289.length co46 : Value).ownBlock) ∧ some k_ ≠ (.slice Ao47 t292.length co47 : Value).ownBlock) ∧ some k_ ≠ (.slice Ao64 t315.length co64 : Value).ownBlock) ∧ some k_ ≠ (.slice Ao69 t318.length co69 : Value).ownBlock)) (n := t305.length) (c := co58) ?_).2.2; exact (by refine qR ?_; exact (Kd.R_mono (Kd.R_far (p := ⟨gb327, 3, none⟩) (Kd.R_far (p := ⟨gb327, 2, none⟩) (Kd.R_far (p := ⟨gb327, 1, none⟩) (Kd.R_far (p := ⟨gb327, 0, none⟩) (Kd.R_types HO307.out BK327.out (by decide)) (fun _ hk => hk.2) (.slice Ao64 t315.length co64)) (fun _ hk => hk.2) (.slice Ao69 t318.length co69)) (fun _ hk => hk.2) (.slice Ao70 t321.length co70)) (fun _ hk => hk.2) (.slice Ao71 t324.length co71)) (fun _ h_ => h_.1)))); (case side4 => exact (Kd.R_reads' HO307.out).2.1); (case side5 => refine (Kd.S_reads' (e := 105) (base := w.heap.size) (ok := fun k_ => (((True ∧ some k_ ≠ (.slice Ao44 t283.length co44 : Value).ownBlock) ∧ some k_ ≠ (.slice Ao48 t295.length co48 : Value).ownBlock) ∧ some k_ ≠ (.slice Ao70 t321.length co70 : Value).ownBlock)) (n := t308.length) (c := co59) ?_).2.2; exact (by refine qS ?_; exact (Kd.S_mono (Kd.S_far (p := ⟨gb327, 3, none⟩) (Kd.S_far (p := ⟨gb327, 2, none⟩) (Kd.S_far (p := ⟨gb327, 1, none⟩) (Kd.S_far (p := ⟨gb327, 0, none⟩) (Kd.S_types HO310.out BK327.out (by decide)) (fun _ hk => hk.2) (.slice Ao64 t315.length co64)) (fun _ hk => hk.2) (.slice Ao69 t318.length co69)) (fun _ hk => hk.2) (.slice Ao70 t321.length co70)) (fun _ hk => hk.2) (.slice Ao71 t324.length co71)) (fun _ h_ => h_.1)))); (case side6 => exact (Kd.S_reads' HO310.out).2.1); (case side7 => refine (Kd.S_reads' (e := 59) (base := w.heap.size) (ok := fun k_ => (((True ∧ some k_ ≠ (.slice Ao45 t286.length co45 : Value).ownBlock) ∧ some k_ ≠ (.slice Ao49 t298.length co49 : Value).ownBlock) ∧ some k_ ≠ (.slice Ao71 t324.length co71 : Value).ownBlock)) (n := t311.length) (c := co60) ?_).2.2; exact (by refine qS ?_; exact (Kd.S_mono (Kd.S_far (p := ⟨gb327, 3, none⟩) (Kd.S_far (p := ⟨gb327, 2, none⟩) (Kd.S_far (p := ⟨gb327, 1, none⟩) (Kd.S_far (p := ⟨gb327, 0, none⟩) (Kd.S_types HO313.out BK327.out (by decide)) (fun _ hk => hk.2) (.slice Ao64 t315.length co64)) (fun _ hk => hk.2) (.slice Ao69 t318.length co69)) (fun _ hk => hk.2) (.slice Ao70 t321.length co70)) (fun _ hk => hk.2) (.slice Ao71 t324.length co71)) (fun _ h_ => h_.1)))); (case side8 => exact (Kd.S_reads' HO313.out).2.1); (case side9 => refine (Kd.R_reads' (e := 4) (base := w.heap.size) (ok := fun k_ => ((((((some k_ ≠ (.slice Ao69 t318.length co69 : Value).ownBlock ∧ some k_ ≠ (.slice Ao42 t277.length co42 : Value).ownBlock) ∧ some k_ ≠ (.slice Ao43 t280.length co43 : Value).ownBlock) ∧ some k_ ≠ (.slice Ao46 t289.length co46 : Value).ownBlock) ∧ some k_ ≠ (.slice Ao47 t292.length co47 : Value).ownBlock) ∧ some k_ ≠ (.slice Ao54 t302.length co54 : Value).ownBlock) ∧ some k_ ≠ (.slice Ao58 t305.length co58 : Value).ownBlock)) (n := t315.length) (c := co64) ?_).2.2; exact (by refine qR ?_; exact (Kd.R_mono (Kd.R_far (p := ⟨gb327, 3, none⟩) (Kd.R_far (p := ⟨gb327, 2, none⟩) (Kd.R_far (p := ⟨gb327, 1, none⟩) (Kd.R_far (p := ⟨gb327, 0, none⟩) (Kd.R_types HO317.out BK327.out (by decide)) (fun _ hk => hk.2) (.slice Ao64 t315.length co64)) (fun _ hk => hk.2) (.slice Ao69 t318.length co69)) (fun _ hk => hk.2) (.slice Ao70 t321.length co70)) (fun _ hk => hk.2) (.slice Ao71 t324.length co71)) (fun _ h_ => h_.1)))); (case side10 => exact (Kd.R_reads' HO317.out).2.1); (case side11 => refine (Kd.R_reads' (e := 4) (base := w.heap.size) (ok := fun k_ => ((((((some k_ ≠ (.slice Ao64 t315.length co64 : Value).ownBlock ∧ some k_ ≠ (.slice Ao42 t277.length co42 : Value).ownBlock) ∧ some k_ ≠ (.slice Ao43 t280.length co43 : Value).ownBlock) ∧ some k_ ≠ (.slice Ao46 t289.length co46 : Value).ownBlock) ∧ some k_ ≠ (.slice Ao47 t292.length co47 : Value).ownBlock) ∧ some k_ ≠ (.slice Ao54 t302.length co54 : Value).ownBlock) ∧ some k_ ≠ (.slice Ao58 t305.length co58 : Value).ownBlock)) (n := t318.length) (c := co69) ?_).2.2; exact (by refine qR ?_; exact (Kd.R_mono (Kd.R_far (p := ⟨gb327, 3, none⟩) (Kd.R_far (p := ⟨gb327, 2, none⟩) (Kd.R_far (p := ⟨gb327, 1, none⟩) (Kd.R_far (p := ⟨gb327, 0, none⟩) (Kd.R_types HO320.out BK327.out (by decide)) (fun _ hk => hk.2) (.slice Ao64 t315.length co64)) (fun _ hk => hk.2) (.slice Ao69 t318.length co69)) (fun _ hk => hk.2) (.slice Ao70 t321.length co70)) (fun _ hk => hk.2) (.slice Ao71 t324.length co71)) (fun _ h_ => h_.1)))); (case side12 => exact (Kd.R_reads' HO320.out).2.1); (case side13 => refine (Kd.S_reads' (e := 105) (base := w.heap.size) (ok := fun k_ => (((True ∧ some k_ ≠ (.slice Ao44 t283.length co44 : Value).ownBlock) ∧ some k_ ≠ (.slice Ao48 t295.length co48 : Value).ownBlock) ∧ some k_ ≠ (.slice Ao59 t308.length co59 : Value).ownBlock)) (n := t321.length) (c := co70) ?_).2.2; exact (by refine qS ?_; exact (Kd.S_mono (Kd.S_far (p := ⟨gb327, 3, none⟩) (Kd.S_far (p := ⟨gb327, 2, none⟩) (Kd.S_far (p := ⟨gb327, 1, none⟩) (Kd.S_far (p := ⟨gb327, 0, none⟩) (Kd.S_types HO323.out BK327.out (by decide)) (fun _ hk => hk.2) (.slice Ao64 t315.length co64)) (fun _ hk => hk.2) (.slice Ao69 t318.length co69)) (fun _ hk => hk.2) (.slice Ao70 t321.length co70)) (fun _ hk => hk.2) (.slice Ao71 t324.length co71)) (fun _ h_ => h_.1)))); (case side14 => exact (Kd.S_reads' HO323.out).2.1); (case side15 => refine (Kd.S_reads' (e := 59) (base := w.heap.size) (ok := fun k_ => (((True ∧ some k_ ≠ (.slice Ao45 t286.length co45 : Value).ownBlock) ∧ some k_ ≠ (.slice Ao49 t298.length co49 : Value).ownBlock) ∧ some k_ ≠ (.slice Ao60 t311.length co60 : Value).ownBlock)) (n := t324.length) (c := co71) ?_).2.2; exact (by refine qS ?_; exact (Kd.S_mono (Kd.S_far (p := ⟨gb327, 3, none⟩) (Kd.S_far (p := ⟨gb327, 2, none⟩) (Kd.S_far (p := ⟨gb327, 1, none⟩) (Kd.S_far (p := ⟨gb327, 0, none⟩) (Kd.S_types HO326.out BK327.out (by decide)) (fun _ hk => hk.2) (.slice Ao64 t315.length co64)) (fun _ hk => hk.2) (.slice Ao69 t318.length co69)) (fun _ hk => hk.2) (.slice Ao70 t321.length co70)) (fun _ hk => hk.2) (.slice Ao71 t324.length co71)) (fun _ h_ => h_.1)))); (case side16 => exact (Kd.S_reads' HO326.out).2.1); rintro e w73 ⟨rfl, hb⟩; refine ⟨_, rfl, ?_⟩; have n0_ := Aside0.mk (Kd.R_below (by refine qR ?_; exact (Kd.R_mono (Kd.R_far (p := ⟨gb327, 3, none⟩) (Kd.R_far (p := ⟨gb327, 2, none⟩) (Kd.R_far (p := ⟨gb327, 1, none⟩) (Kd.R_far (p := ⟨gb327, 0, none⟩) (Kd.R_types HO279.out BK327.out (by decide)) (fun _ hk => hk.2) (.slice Ao64 t315.length co64)) (fun _ hk => hk.2) (.slice Ao69 t318.length co69)) (fun _ hk => hk.2) (.slice Ao70 t321.length co70)) (fun _ hk => hk.2) (.slice Ao71 t324.length co71)) (fun _ h_ => h_.1))) hb); have n1_ := Aside0.mk (Kd.R_below (by refine qR ?_; exact (Kd.R_mono (Kd.R_far (p := ⟨gb327, 3, none⟩) (Kd.R_far (p := ⟨gb327, 2, none⟩) (Kd.R_far (p := ⟨gb327, 1, none⟩) (Kd.R_far (p := ⟨gb327, 0, none⟩) (Kd.R_types HO282.out BK327.out (by decide)) (fun _ hk => hk.2) (.slice Ao64 t315.length co64)) (fun _ hk => hk.2) (.slice Ao69 t318.length co69)) (fun _ hk => hk.2) (.slice Ao70 t321.length co70)) (fun _ hk => hk.2) (.slice Ao71 t324.length co71)) (fun _ h_ => h_.1))) hb); have n2_ := Aside0.mk (Kd.S_below (by refine qS ?_; exact (Kd.S_mono (Kd.S_far (p := ⟨gb327, 3, none⟩) (Kd.S_far (p := ⟨gb327, 2, none⟩) (Kd.S_far (p := ⟨gb327, 1, none⟩) (Kd.S_far (p := ⟨gb327, 0, none⟩) (Kd.S_types HO285.out BK327.out (by decide)) (fun _ hk => hk.2) (.slice Ao64 t315.length co64)) (fun _ hk => hk.2) (.slice Ao69 t318.length co69)) (fun _ hk => hk.2) (.slice Ao70 t321.length co70)) (fun _ hk => hk.2) (.slice Ao71 t324.length co71)) (fun _ h_ => h_.1))) hb); have n3_ := Aside0.mk (Kd.S_below (by refine qS ?_; exact (Kd.S_mono (Kd.S_far (p := ⟨gb327, 3, none⟩) (Kd.S_far (p := ⟨gb327, 2, none⟩) (Kd.S_far (p := ⟨gb327, 1, none⟩) (Kd.S_far (p := ⟨gb327, 0, none⟩) (Kd.S_types HO288.out BK327.out (by decide)) (fun _ hk => hk.2) (.slice Ao64 t315.length co64)) (fun _ hk => hk.2) (.slice Ao69 t318.length co69)) (fun _ hk => hk.2) (.slice Ao70 t321.length co70)) (fun _ hk => hk.2) (.slice Ao71 t324.length co71)) (fun _ h_ => h_.1))) hb); have n4_ := Aside0.mk (Kd.R_below (by refine qR ?_; exact (Kd.R_mono (Kd.R_far (p := ⟨gb327, 3, none⟩) (Kd.R_far (p := ⟨gb327, 2, none⟩) (Kd.R_far (p := ⟨gb327, 1, none⟩) (Kd.R_far (p := ⟨gb327, 0, none⟩) (Kd.R_types HO291.out BK327.out (by decide)) (fun _ hk => hk.2) (.slice Ao64 t315.length co64)) (fun _ hk => hk.2) (.slice Ao69 t318.length co69)) (fun _ hk => hk.2) (.slice Ao70 t321.length co70)) (fun _ hk => hk.2) (.slice Ao71 t324.length co71)) (fun _ h_ => h_.1))) hb); have n5_ := Aside0.mk (Kd.R_below (by refine qR ?_; exact (Kd.R_mono (Kd.R_far (p := ⟨gb327, 3, none⟩) (Kd.R_far (p := ⟨gb327, 2, none⟩) (Kd.R_far (p := ⟨gb327, 1, none⟩) (Kd.R_far (p := ⟨gb327, 0, none⟩) (Kd.R_types HO294.out BK327.out (by decide)) (fun _ hk => hk.2) (.slice Ao64 t315.length co64)) (fun _ hk => hk.2) (.slice Ao69 t318.length co69)) (fun _ hk => hk.2) (.slice Ao70 t321.length co70)) (fun _ hk => hk.2) (.slice Ao71 t324.length co71)) (fun _ h_ => h_.1))) hb); have n6_ := Aside0.mk (Kd.S_below (by refine qS ?_; exact (Kd.S_mono (Kd.S_far (p := ⟨gb327, 3, none⟩) (Kd.S_far (p := ⟨gb327, 2, none⟩) (Kd.S_far (p := ⟨gb327, 1, none⟩) (Kd.S_far (p := ⟨gb327, 0, none⟩) (Kd.S_types HO297.out BK327.out (by decide)) (fun _ hk => hk.2) (.slice Ao64 t315.length co64)) (fun _ hk => hk.2) (.slice Ao69 t318.length co69)) (fun _ hk => hk.2) (.slice Ao70 t321.length co70)) (fun _ hk => hk.2) (.slice Ao71 t324.length co71)) (fun _ h_ => h_.1))) hb); have n7_ := Aside0.mk (Kd.S_below (by refine qS ?_; exact (Kd.S_mono (Kd.S_far (p := ⟨gb327, 3, none⟩) (Kd.S_far (p := ⟨gb327, 2, none⟩) (Kd.S_far (p := ⟨gb327, 1, none⟩) (Kd.S_far (p := ⟨gb327, 0, none⟩) (Kd.S_types HO300.out BK327.out (by decide)) (fun _ hk => hk.2) (.slice Ao64 t315.length co64)) (fun _ hk => hk.2) (.slice Ao69 t318.length co69)) (fun _ hk => hk.2) (.slice Ao70 t321.length co70)) (fun _ hk => hk.2) (.slice Ao71 t324.length co71)) (fun _ h_ => h_.1))) hb); have n8_ := Aside0.mk (Kd.R_below (by refine qR ?_; exact (Kd.R_mono (Kd.R_far (p := ⟨gb327, 3, none⟩) (Kd.R_far (p := ⟨gb327, 2, none⟩) (Kd.R_far (p := ⟨gb327, 1, none⟩) (Kd.R_far (p := ⟨gb327, 0, none⟩) (Kd.R_types HO304.out BK327.out (by decide)) (fun _ hk => hk.2) (.slice Ao64 t315.length co64)) (fun _ hk => hk.2) (.slice Ao69 t318.length co69)) (fun _ hk => hk.2) (.slice Ao70 t321.length co70)) (fun _ hk => hk.2) (.slice Ao71 t324.length co71)) (fun _ h_ => h_.1))) hb); have n9_ := Aside0.mk (Kd.R_below (by refine qR ?_; exact (Kd.R_mono (Kd.R_far (p := ⟨gb327, 3, none⟩) (Kd.R_far (p := ⟨gb327, 2, none⟩) (Kd.R_far (p := ⟨gb327, 1, none⟩) (Kd.R_far (p := ⟨gb327, 0, none⟩) (Kd.R_types HO307.out BK327.out (by decide)) (fun _ hk => hk.2) (.slice Ao64 t315.length co64)) (fun _ hk => hk.2) (.slice Ao69 t318.length co69)) (fun _ hk => hk.2) (.slice Ao70 t321.length co70)) (fun _ hk => hk.2) (.slice Ao71 t324.length co71)) (fun _ h_ => h_.1))) hb); have n10_ := Aside0.mk (Kd.S_below (by refine qS ?_; exact (Kd.S_mono (Kd.S_far (p := ⟨gb327, 3, none⟩) (Kd.S_far (p := ⟨gb327, 2, none⟩) (Kd.S_far (p := ⟨gb327, 1, none⟩) (Kd.S_far (p := ⟨gb327, 0, none⟩) (Kd.S_types HO310.out BK327.out (by decide)) (fun _ hk => hk.2) (.slice Ao64 t315.length co64)) (fun _ hk => hk.2) (.slice Ao69 t318.length co69)) (fun _ hk => hk.2) (.slice Ao70 t321.length co70)) (fun _ hk => hk.2) (.slice Ao71 t324.length co71)) (fun _ h_ => h_.1))) hb); have n11_ := Aside0.mk (Kd.S_below (by refine qS ?_; exact (Kd.S_mono (Kd.S_far (p := ⟨gb327, 3, none⟩) (Kd.S_far (p := ⟨gb327, 2, none⟩) (Kd.S_far (p := ⟨gb327, 1, none⟩) (Kd.S_far (p := ⟨gb327, 0, none⟩) (Kd.S_types HO313.out BK327.out (by decide)) (fun _ hk => hk.2) (.slice Ao64 t315.length co64)) (fun _ hk => hk.2) (.slice Ao69 t318.length co69)) (fun _ hk => hk.2) (.slice Ao70 t321.length co70)) (fun _ hk => hk.2) (.slice Ao71 t324.length co71)) (fun _ h_ => h_.1))) hb); have n12_ := Aside0.mk (Kd.R_below (by refine qR ?_; exact (Kd.R_mono (Kd.R_far (p := ⟨gb327, 3, none⟩) (Kd.R_far (p := ⟨gb327, 2, none⟩) (Kd.R_far (p := ⟨gb327, 1, none⟩) (Kd.R_far (p := ⟨gb327, 0, none⟩) (Kd.R_types HO317.out BK327.out (by decide)) (fun _ hk => hk.2) (.slice Ao64 t315.length co64)) (fun _ hk => hk.2) (.slice Ao69 t318.length co69)) (fun _ hk => hk.2) (.slice Ao70 t321.length co70)) (fun _ hk => hk.2) (.slice Ao71 t324.length co71)) (fun _ h_ => h_.1))) hb); have n13_ := Aside0.mk (Kd.R_below (by refine qR ?_; exact (Kd.R_mono (Kd.R_far (p := ⟨gb327, 3, none⟩) (Kd.R_far (p := ⟨gb327, 2, none⟩) (Kd.R_far (p := ⟨gb327, 1, none⟩) (Kd.R_far (p := ⟨gb327, 0, none⟩) (Kd.R_types HO320.out BK327.out (by decide)) (fun _ hk => hk.2) (.slice Ao64 t315.length co64)) (fun _ hk => hk.2) (.slice Ao69 t318.length co69)) (fun _ hk => hk.2) (.slice Ao70 t321.length co70)) (fun _ hk => hk.2) (.slice Ao71 t324.length co71)) (fun _ h_ => h_.1))) hb); have n14_ := Aside0.mk (Kd.S_below (by refine qS ?_; exact (Kd.S_mono (Kd.S_far (p := ⟨gb327, 3, none⟩) (Kd.S_far (p := ⟨gb327, 2, none⟩) (Kd.S_far (p := ⟨gb327, 1, none⟩) (Kd.S_far (p := ⟨gb327, 0, none⟩) (Kd.S_types HO323.out BK327.out (by decide)) (fun _ hk => hk.2) (.slice Ao64 t315.length co64)) (fun _ hk => hk.2) (.slice Ao69 t318.length co69)) (fun _ hk => hk.2) (.slice Ao70 t321.length co70)) (fun _ hk => hk.2) (.slice Ao71 t324.length co71)) (fun _ h_ => h_.1))) hb); have n15_ := Aside0.mk (Kd.S_below (by refine qS ?_; exact (Kd.S_mono (Kd.S_far (p := ⟨gb327, 3, none⟩) (Kd.S_far (p := ⟨gb327, 2, none⟩) (Kd.S_far (p := ⟨gb327, 1, none⟩) (Kd.S_far (p := ⟨gb327, 0, none⟩) (Kd.S_types HO326.out BK327.out (by decide)) (fun _ hk => hk.2) (.slice Ao64 t315.length co64)) (fun _ hk => hk.2) (.slice Ao69 t318.length co69)) (fun _ hk => hk.2) (.slice Ao70 t321.length co70)) (fun _ hk => hk.2) (.slice Ao71 t324.length co71)) (fun _ h_ => h_.1))) hb); have n16_ := Aside0.mk (blk_below (g := gb273) (o := .cells #[.slice A0_0 l0_0.length c0_0, .slice A0_1 l0_1.length c0_1, .slice A0_2 l0_2.length c0_2, .slice A0_3 l0_3.length c0_3] 28 (0, 0)) (by refine qK ?_; refine blk_far ?_ NB273_327.out _; refine qK ?_; refine blk_far ?_ NB273_327.out _; refine qK ?_; refine blk_far ?_ NB273_327.out _; refine qK ?_; refine blk_far ?_ NB273_327.out _; refine qK ?_; exact BK273.out) hb); have n17_ := Aside0.mk (blk_below (g := gb274) (o := .cells #[.slice A1_0 l1_0.length c1_0, .slice A1_1 l1_1.length c1_1, .slice A1_2 l1_2.length c1_2, .slice A1_3 l1_3.length c1_3] 28 (0, 0)) (by refine qK ?_; refine blk_far ?_ NB274_327.out _; refine qK ?_; refine blk_far ?_ NB274_327.out _; refine qK ?_; refine blk_far ?_ NB274_327.out _; refine qK ?_; refine blk_far ?_ NB274_327.out _; refine qK ?_; exact BK274.out) hb); have n18_ := Aside0.mk (blk_below (g := gb314) (o := .cells #[.slice Ao54 t302.length co54, .slice Ao58 t305.length co58, .slice Ao59 t308.length co59, .slice Ao60 t311.length co60] 39 (0, 0)) (by refine qK ?_; refine blk_far ?_ NB314_327.out _; refine qK ?_; refine blk_far ?_ NB314_327.out _; refine qK ?_; refine blk_far ?_ NB314_327.out _; refine qK ?_; refine blk_far ?_ NB314_327.out _; refine qK ?_; exact BK314.out) hb); have n19_ := Aside0.mk (blk_below (g := gb327) (o := .cells #[.slice Ao64 t315.length co64, .slice Ao69 t318.length co69, .slice Ao70 t321.length co70, .slice Ao71 t324.length co71] 39 (0, 0)) (by refine qK ?_; refine blk_put (cs := #[.slice Ao64 t315.length co64, .slice Ao69 t318.length co69, .slice Ao70 t321.length co70, .slice none 0 0]) ?_ 3 _ rfl; refine qK ?_; refine blk_put (cs := #[.slice Ao64 t315.length co64, .slice Ao69 t318.length co69, .slice none 0 0, .slice none 0 0]) ?_ 2 _ rfl; refine qK ?_; refine blk_put (cs := #[.slice Ao64 t315.length co64, .slice none 0 0, .slice none 0 0, .slice none 0 0]) ?_ 1 _ rfl; refine qK ?_; refine blk_put (cs := #[.slice none 0 0, .slice none 0 0, .slice none 0 0, .slice none 0 0]) ?_ 0 _ rfl; refine qK ?_; exact BK327.out) hb); have n20_ := Aside0.mk (below_step (qb4 HB.out GE273.out GE274.out GE314.out GE327.out) hb); clear HO279; clear HO282; clear HO285; clear HO288; clear HO291; clear HO294; clear HO297; clear HO300; clear HO304; clear HO307; clear HO310; clear HO313; clear HO317; clear HO320; clear HO323; clear HO326; clear BK273; clear BK274; clear BK314; clear BK327; clear HB; have HO279 := n0_; have HO282 := n1_; have HO285 := n2_; have HO288 := n3_; have HO291 := n4_; have HO294 := n5_; have HO297 := n6_; have HO300 := n7_; have HO304 := n8_; have HO307 := n9_; have HO310 := n10_; have HO313 := n11_; have HO317 := n12_; have HO320 := n13_; have HO323 := n14_; have HO326 := n15_; have BK273 := n16_; have BK274 := n17_; have BK314 := n18_; have BK327 := n19_; have HB := n20_; clear n0_ n1_ n2_ n3_ n4_ n5_ n6_ n7_ n8_ n9_ n10_ n11_ n12_ n13_ n14_ n15_ n16_ n17_ n18_ n19_ n20_; (try clear hb); (try clear hb2); (try clear hk); (try clear hi)))
      have n0_ := Aside0.mk (Kd.R_drew HO279.out)
      have n1_ := Aside0.mk (Kd.R_drew HO282.out)
      have n2_ := Aside0.mk (Kd.S_drew HO285.out)
      have n3_ := Aside0.mk (Kd.S_drew HO288.out)
      have n4_ := Aside0.mk (Kd.R_drew HO291.out)
      have n5_ := Aside0.mk (Kd.R_drew HO294.out)
      have n6_ := Aside0.mk (Kd.S_drew HO297.out)
      have n7_ := Aside0.mk (Kd.S_drew HO300.out)
      have n8_ := Aside0.mk (Kd.R_drew HO304.out)
      have n9_ := Aside0.mk (Kd.R_drew HO307.out)
      have n10_ := Aside0.mk (Kd.S_drew HO310.out)
      have n11_ := Aside0.mk (Kd.S_drew HO313.out)
      have n12_ := Aside0.mk (Kd.R_drew HO317.out)
      have n13_ := Aside0.mk (Kd.R_drew HO320.out)
      have n14_ := Aside0.mk (Kd.S_drew HO323.out)
      have n15_ := Aside0.mk (Kd.S_drew HO326.out)
      have n16_ := Aside0.mk (blk_drew BK273.out)
      have n17_ := Aside0.mk (blk_drew BK274.out)
      have n18_ := Aside0.mk (blk_drew BK314.out)
      have n19_ := Aside0.mk (blk_drew BK327.out)
      have n20_ := Aside0.mk (below_drew1 HB.out)
      clear HO279
      clear HO282
      clear HO285
      clear HO288
      clear HO291
      clear HO294
      clear HO297
      clear HO300
      clear HO304
      clear HO307
      clear HO310
      clear HO313
      clear HO317
      clear HO320
      clear HO323
      clear HO326
      clear BK273
      clear BK274
      clear BK314
      clear BK327
      clear HB
      have HO279 := n0_
      have HO282 := n1_
      have HO285 := n2_
      have HO288 := n3_
      have HO291 := n4_
      have HO294 := n5_
      have HO297 := n6_
      have HO300 := n7_
      have HO304 := n8_
      have HO307 := n9_
      have HO310 := n10_
      have HO313 := n11_
      have HO317 := n12_
      have HO320 := n13_
      have HO323 := n14_
      have HO326 := n15_
      have BK273 := n16_
      have BK274 := n17_
      have BK314 := n18_
      have BK327 := n19_
      have HB := n20_
      clear n0_ n1_ n2_ n3_ n4_ n5_ n6_ n7_ n8_ n9_ n10_ n11_ n12_ n13_ n14_ n15_ n16_ n17_ n18_ n19_ n20_
      refine start_ (n := 5) (S := fun w' => w'.cell? ⟨gb314, 0, none⟩ = some (.slice Ao54 t302.length co54) ∧ w'.cell? ⟨gb314, 1, none⟩ = some (.slice Ao58 t305.length co58) ∧ w'.cell? ⟨gb314, 2, none⟩ = some (.slice Ao59 t308.length co59) ∧ w'.cell? ⟨gb314, 3, none⟩ = some (.slice Ao60 t311.length co60) ∧ w'.cell? ⟨gb273, 0, none⟩ = some (.slice A0_0 l0_0.length c0_0) ∧ w'.cell? ⟨gb273, 1, none⟩ = some (.slice A0_1 l0_1.length c0_1) ∧ w'.cell? ⟨gb273, 2, none⟩ = some (.slice A0_2 l0_2.length c0_2) ∧ w'.cell? ⟨gb273, 3, none⟩ = some (.slice A0_3 l0_3.length c0_3)) (ds := []) #[false, false, false, false, false] (by kernel_rfl) rfl rfl ⟨(blk_cell BK314.out 0).trans rfl, (blk_cell BK314.out 1).trans rfl, (blk_cell BK314.out 2).trans rfl, (blk_cell BK314.out 3).trans rfl, (blk_cell BK273.out 0).trans rfl, (blk_cell BK273.out 1).trans rfl, (blk_cell BK273.out 2).trans rfl, (blk_cell BK273.out 3).trans rfl⟩ (fun hHeld => ?_)
      generalize w73.drew = w74 at HO279 HO282 HO285 HO288 HO291 HO294 HO297 HO300 HO304 HO307 HO310 HO313 HO317 HO320 HO323 HO326 BK273 BK274 BK314 BK327 HB hHeld ⊢
      refine take_ (i := 0) (N := some 35) (v := ?_) (a' := ?_) #[true, false, false, false, false] rfl rfl (by kernel_rfl) (fun _ _ _ h => h) (Or.inl ⟨by rfl, ?_⟩) hHeld ?_ ?_
      rotate_left
      ·rintro w' ⟨s0, s1, s2, s3, s4, s5, s6, s7⟩
       go_simp
       with_reducible rfl
      rotate_left
      ·refine qp ?_
       rfl
      refine take_ (i := 1) (N := some 36) (v := ?_) (a' := ?_) #[true, true, false, false, false] rfl rfl (by kernel_rfl) (fun _ _ _ h => h) (Or.inl ⟨by rfl, ?_⟩) hHeld ?_ ?_
      rotate_left
      ·rintro w' ⟨s0, s1, s2, s3, s4, s5, s6, s7⟩
       go_simp
       with_reducible rfl
      rotate_left
      ·refine qp ?_
       rfl
      refine one_ (i := 2) (N := some 37) #[true, true, true, false, false] rfl rfl (by kernel_rfl) (by decide) (fun K hK => ?_)
      refine goes_ Try.func16 (by kernel_rfl) rfl #[.agg #[.slice A0_0 l0_0.length c0_0, .slice A0_1 l0_1.length c0_1, .slice A0_2 l0_2.length c0_2, .slice A0_3 l0_3.length c0_3]] (by rfl) rfl rfl qm ?_
      with_reducible refine (laws_toDisk.calls k _ _ l0_0 _ _ l0_1 _ _ l0_2 _ _ l0_3 t329 t332 t335 t338 _ ?side1 ?side2 ?side3 ?side4 ?side5 ?side6 ?side7 ?side8 A26.out).mono ?_
      (case side1 => repeat (first | exact (Kd.C_below HR0_0.out HB.out) | (with_reducible refine Kd.C_alloc ?_ _) | (with_reducible refine Kd.C_drewN ?_ _) | (with_reducible refine Kd.C_drew ?_)))
      (case side2 => exact HC0_0.out)
      (case side3 => repeat (first | exact (Kd.C_below HR0_1.out HB.out) | (with_reducible refine Kd.C_alloc ?_ _) | (with_reducible refine Kd.C_drewN ?_ _) | (with_reducible refine Kd.C_drew ?_)))
      (case side4 => exact HC0_1.out)
      (case side5 => repeat (first | exact (Kd.C_below HR0_2.out HB.out) | (with_reducible refine Kd.C_alloc ?_ _) | (with_reducible refine Kd.C_drewN ?_ _) | (with_reducible refine Kd.C_drew ?_)))
      (case side6 => exact HC0_2.out)
      (case side7 => repeat (first | exact (Kd.C_below HR0_3.out HB.out) | (with_reducible refine Kd.C_alloc ?_ _) | (with_reducible refine Kd.C_drewN ?_ _) | (with_reducible refine Kd.C_drew ?_)))
      (case side8 => exact HC0_3.out)
      rintro e w75 ⟨v330, v333, v336, v339, rfl, ho0, ho1, ho2, ho3, hb⟩
      refine ⟨_, rfl, ?_⟩
      have n0_ := Aside0.mk (Kd.R_mono (Kd.R_told (Kd.R_told (Kd.R_old (qr HO279.out) hb) (Kd.R_base ho0)) (Kd.R_base ho1)) (fun _ h_ => h_.1))
      have n1_ := Aside0.mk (Kd.R_mono (Kd.R_told (Kd.R_told (Kd.R_old (qr HO282.out) hb) (Kd.R_base ho0)) (Kd.R_base ho1)) (fun _ h_ => h_.1))
      have n2_ := Aside0.mk (Kd.S_elder' (qs HO285.out) (Kd.S_base ho2) hb)
      have n3_ := Aside0.mk (Kd.S_elder' (qs HO288.out) (Kd.S_base ho3) hb)
      have n4_ := Aside0.mk (Kd.R_mono (Kd.R_told (Kd.R_told (Kd.R_old (qr HO291.out) hb) (Kd.R_base ho0)) (Kd.R_base ho1)) (fun _ h_ => h_.1))
      have n5_ := Aside0.mk (Kd.R_mono (Kd.R_told (Kd.R_told (Kd.R_old (qr HO294.out) hb) (Kd.R_base ho0)) (Kd.R_base ho1)) (fun _ h_ => h_.1))
      have n6_ := Aside0.mk (Kd.S_elder' (qs HO297.out) (Kd.S_base ho2) hb)
      have n7_ := Aside0.mk (Kd.S_elder' (qs HO300.out) (Kd.S_base ho3) hb)
      have n8_ := Aside0.mk (Kd.R_mono (Kd.R_told (Kd.R_told (Kd.R_old (qr HO304.out) hb) (Kd.R_base ho0)) (Kd.R_base ho1)) (fun _ h_ => h_.1))
      have n9_ := Aside0.mk (Kd.R_mono (Kd.R_told (Kd.R_told (Kd.R_old (qr HO307.out) hb) (Kd.R_base ho0)) (Kd.R_base ho1)) (fun _ h_ => h_.1))
      have n10_ := Aside0.mk (Kd.S_elder' (qs HO310.out) (Kd.S_base ho2) hb)
      have n11_ := Aside0.mk (Kd.S_elder' (qs HO313.out) (Kd.S_base ho3) hb)
      have n12_ := Aside0.mk (Kd.R_mono (Kd.R_told (Kd.R_told (Kd.R_old (qr HO317.out) hb) (Kd.R_base ho0)) (Kd.R_base ho1)) (fun _ h_ => h_.1))
      have n13_ := Aside0.mk (Kd.R_mono (Kd.R_told (Kd.R_told (Kd.R_old (qr HO320.out) hb) (Kd.R_base ho0)) (Kd.R_base ho1)) (fun _ h_ => h_.1))
      have n14_ := Aside0.mk (Kd.S_elder' (qs HO323.out) (Kd.S_base ho2) hb)
      have n15_ := Aside0.mk (Kd.S_elder' (qs HO326.out) (Kd.S_base ho3) hb)
      have n16_ := Aside0.mk (Kd.R_lower (Kd.R_new' (Kd.R_new' (Kd.R_new' (Kd.R_new' (Kd.R_new' (Kd.R_new' (Kd.R_new' (Kd.R_new' ho0 (Kd.R_lt (qr HO279.out))) (Kd.R_lt (qr HO282.out))) (Kd.R_lt (qr HO291.out))) (Kd.R_lt (qr HO294.out))) (Kd.R_lt (qr HO304.out))) (Kd.R_lt (qr HO307.out))) (Kd.R_lt (qr HO317.out))) (Kd.R_lt (qr HO320.out))) (below_size (qb4 HB.out GE273.out GE274.out GE314.out GE327.out)))
      have n17_ := Aside0.mk (Kd.R_lower (Kd.R_new' (Kd.R_new' (Kd.R_new' (Kd.R_new' (Kd.R_new' (Kd.R_new' (Kd.R_new' (Kd.R_new' ho1 (Kd.R_lt (qr HO279.out))) (Kd.R_lt (qr HO282.out))) (Kd.R_lt (qr HO291.out))) (Kd.R_lt (qr HO294.out))) (Kd.R_lt (qr HO304.out))) (Kd.R_lt (qr HO307.out))) (Kd.R_lt (qr HO317.out))) (Kd.R_lt (qr HO320.out))) (below_size (qb4 HB.out GE273.out GE274.out GE314.out GE327.out)))
      have n18_ := Aside0.mk (Kd.S_lower (Kd.S_new' (Kd.S_new' (Kd.S_new' (Kd.S_new' ho2 (Kd.S_lt (qs HO285.out))) (Kd.S_lt (qs HO297.out))) (Kd.S_lt (qs HO310.out))) (Kd.S_lt (qs HO323.out))) (below_size (qb4 HB.out GE273.out GE274.out GE314.out GE327.out)))
      have n19_ := Aside0.mk (Kd.S_lower (Kd.S_new' (Kd.S_new' (Kd.S_new' (Kd.S_new' ho3 (Kd.S_lt (qs HO288.out))) (Kd.S_lt (qs HO300.out))) (Kd.S_lt (qs HO313.out))) (Kd.S_lt (qs HO326.out))) (below_size (qb4 HB.out GE273.out GE274.out GE314.out GE327.out)))
      have n20_ := Aside0.mk (blk_below (g := gb273) (o := .cells #[.slice A0_0 l0_0.length c0_0, .slice A0_1 l0_1.length c0_1, .slice A0_2 l0_2.length c0_2, .slice A0_3 l0_3.length c0_3] 28 (0, 0)) (qk BK273.out) hb)
      have n21_ := Aside0.mk (blk_below (g := gb274) (o := .cells #[.slice A1_0 l1_0.length c1_0, .slice A1_1 l1_1.length c1_1, .slice A1_2 l1_2.length c1_2, .slice A1_3 l1_3.length c1_3] 28 (0, 0)) (qk BK274.out) hb)
      have n22_ := Aside0.mk (blk_below (g := gb314) (o := .cells #[.slice Ao54 t302.length co54, .slice Ao58 t305.length co58, .slice Ao59 t308.length co59, .slice Ao60 t311.length co60] 39 (0, 0)) (qk BK314.out) hb)
      have n23_ := Aside0.mk (blk_below (g := gb327) (o := .cells #[.slice Ao64 t315.length co64, .slice Ao69 t318.length co69, .slice Ao70 t321.length co70, .slice Ao71 t324.length co71] 39 (0, 0)) (qk BK327.out) hb)
      have n24_ := Aside0.mk (below_step (qb4 HB.out GE273.out GE274.out GE314.out GE327.out) hb)
      clear HO279
      clear HO282
      clear HO285
      clear HO288
      clear HO291
      clear HO294
      clear HO297
      clear HO300
      clear HO304
      clear HO307
      clear HO310
      clear HO313
      clear HO317
      clear HO320
      clear HO323
      clear HO326
      clear BK273
      clear BK274
      clear BK314
      clear BK327
      clear HB
      have HO279 := n0_
      have HO282 := n1_
      have HO285 := n2_
      have HO288 := n3_
      have HO291 := n4_
      have HO294 := n5_
      have HO297 := n6_
      have HO300 := n7_
      have HO304 := n8_
      have HO307 := n9_
      have HO310 := n10_
      have HO313 := n11_
      have HO317 := n12_
      have HO320 := n13_
      have HO323 := n14_
      have HO326 := n15_
      have HO331 := n16_
      have HO334 := n17_
      have HO337 := n18_
      have HO340 := n19_
      have BK273 := n20_
      have BK274 := n21_
      have BK314 := n22_
      have BK327 := n23_
      have HB := n24_
      clear n0_ n1_ n2_ n3_ n4_ n5_ n6_ n7_ n8_ n9_ n10_ n11_ n12_ n13_ n14_ n15_ n16_ n17_ n18_ n19_ n20_ n21_ n22_ n23_ n24_
      (try clear hb)
      (try clear hb2)
      (try clear hk)
      (try clear hi)
      (try clear ho0)
      (try clear ho1)
      (try clear ho2)
      (try clear ho3)
      obtain ⟨Ao76, co76, eo76⟩ := Kd.R_slice HO331.out
      (first | subst eo76 | (injection eo76 with f1_ f2_ f3_; have f4_ := f1_.symm; have f5_ := f3_.symm; clear f1_ f2_ f3_; subst f4_; subst f5_))
      obtain ⟨Ao77, co77, eo77⟩ := Kd.R_slice HO334.out
      (first | subst eo77 | (injection eo77 with f1_ f2_ f3_; have f4_ := f1_.symm; have f5_ := f3_.symm; clear f1_ f2_ f3_; subst f4_; subst f5_))
      obtain ⟨Ao78, co78, eo78⟩ := Kd.S_slice HO337.out
      (first | subst eo78 | (injection eo78 with f1_ f2_ f3_; have f4_ := f1_.symm; have f5_ := f3_.symm; clear f1_ f2_ f3_; subst f4_; subst f5_))
      obtain ⟨Ao79, co79, eo79⟩ := Kd.S_slice HO340.out
      (first | subst eo79 | (injection eo79 with f1_ f2_ f3_; have f4_ := f1_.symm; have f5_ := f3_.symm; clear f1_ f2_ f3_; subst f4_; subst f5_))
      refine hK.out _ _ ⟨(blk_cell BK314.out 0).trans rfl, (blk_cell BK314.out 1).trans rfl, (blk_cell BK314.out 2).trans rfl, (blk_cell BK314.out 3).trans rfl, (blk_cell BK273.out 0).trans rfl, (blk_cell BK273.out 1).trans rfl, (blk_cell BK273.out 2).trans rfl, (blk_cell BK273.out 3).trans rfl⟩ (fun hHeld => ?_)
      clear hK K
      refine norm_ (a' := ?_) ?_ ?_
      rotate_left
      ·show Act.put _ (some 37) _ = _
       refine qp ?_
       rfl
      refine one_ (i := 3) (N := some 38) #[true, true, true, true, false] rfl rfl (by kernel_rfl) (by decide) (fun K hK => ?_)
      refine goes_ Try.func19 (by kernel_rfl) rfl #[.agg #[.slice Ao54 t302.length co54, .slice Ao58 t305.length co58, .slice Ao59 t308.length co59, .slice Ao60 t311.length co60], .agg #[.slice Ao76 t329.length co76, .slice Ao77 t332.length co77, .slice Ao78 t335.length co78, .slice Ao79 t338.length co79]] (by rfl) rfl rfl qm ?_
      with_reducible refine (laws_eqDisk.calls k _ _ t302 _ _ t305 _ _ t308 _ _ t311 _ _ t329 _ _ t332 _ _ t335 _ _ t338 true _ ?side1 ?side2 ?side3 ?side4 ?side5 ?side6 ?side7 ?side8 ?side9 ?side10 ?side11 ?side12 ?side13 ?side14 ?side15 ?side16 A27.out).mono ?_
      (case side1 => repeat (first | exact (Kd.R_reads' HO304.out).2.2 | (with_reducible refine Kd.C_alloc ?_ _) | (with_reducible refine Kd.C_drewN ?_ _) | (with_reducible refine Kd.C_drew ?_)))
      (case side2 => exact (Kd.R_reads' HO304.out).2.1)
      (case side3 => repeat (first | exact (Kd.R_reads' HO307.out).2.2 | (with_reducible refine Kd.C_alloc ?_ _) | (with_reducible refine Kd.C_drewN ?_ _) | (with_reducible refine Kd.C_drew ?_)))
      (case side4 => exact (Kd.R_reads' HO307.out).2.1)
      (case side5 => repeat (first | exact (Kd.S_reads' HO310.out).2.2 | (with_reducible refine Kd.C_alloc ?_ _) | (with_reducible refine Kd.C_drewN ?_ _) | (with_reducible refine Kd.C_drew ?_)))
      (case side6 => exact (Kd.S_reads' HO310.out).2.1)
      (case side7 => repeat (first | exact (Kd.S_reads' HO313.out).2.2 | (with_reducible refine Kd.C_alloc ?_ _) | (with_reducible refine Kd.C_drewN ?_ _) | (with_reducible refine Kd.C_drew ?_)))
      (case side8 => exact (Kd.S_reads' HO313.out).2.1)
      (case side9 => repeat (first | exact (Kd.R_reads' HO331.out).2.2 | (with_reducible refine Kd.C_alloc ?_ _) | (with_reducible refine Kd.C_drewN ?_ _) | (with_reducible refine Kd.C_drew ?_)))
      (case side10 => exact (Kd.R_reads' HO331.out).2.1)
      (case side11 => repeat (first | exact (Kd.R_reads' HO334.out).2.2 | (with_reducible refine Kd.C_alloc ?_ _) | (with_reducible refine Kd.C_drewN ?_ _) | (with_reducible refine Kd.C_drew ?_)))
      (case side12 => exact (Kd.R_reads' HO334.out).2.1)
      (case side13 => repeat (first | exact (Kd.S_reads' HO337.out).2.2 | (with_reducible refine Kd.C_alloc ?_ _) | (with_reducible refine Kd.C_drewN ?_ _) | (with_reducible refine Kd.C_drew ?_)))
      (case side14 => exact (Kd.S_reads' HO337.out).2.1)
      (case side15 => repeat (first | exact (Kd.S_reads' HO340.out).2.2 | (with_reducible refine Kd.C_alloc ?_ _) | (with_reducible refine Kd.C_drewN ?_ _) | (with_reducible refine Kd.C_drew ?_)))
      (case side16 => exact (Kd.S_reads' HO340.out).2.1)
      rintro e w80 ⟨rfl, hb⟩
      refine ⟨_, rfl, ?_⟩
      have n0_ := Aside0.mk (Kd.R_below (qr HO279.out) hb)
      have n1_ := Aside0.mk (Kd.R_below (qr HO282.out) hb)
      have n2_ := Aside0.mk (Kd.S_below (qs HO285.out) hb)
      have n3_ := Aside0.mk (Kd.S_below (qs HO288.out) hb)
      have n4_ := Aside0.mk (Kd.R_below (qr HO291.out) hb)
      have n5_ := Aside0.mk (Kd.R_below (qr HO294.out) hb)
      have n6_ := Aside0.mk (Kd.S_below (qs HO297.out) hb)
      have n7_ := Aside0.mk (Kd.S_below (qs HO300.out) hb)
      have n8_ := Aside0.mk (Kd.R_below (qr HO304.out) hb)
      have n9_ := Aside0.mk (Kd.R_below (qr HO307.out) hb)
      have n10_ := Aside0.mk (Kd.S_below (qs HO310.out) hb)
      have n11_ := Aside0.mk (Kd.S_below (qs HO313.out) hb)
      have n12_ := Aside0.mk (Kd.R_below (qr HO317.out) hb)
      have n13_ := Aside0.mk (Kd.R_below (qr HO320.out) hb)
      have n14_ := Aside0.mk (Kd.S_below (qs HO323.out) hb)
      have n15_ := Aside0.mk (Kd.S_below (qs HO326.out) hb)
      have n16_ := Aside0.mk (Kd.R_below (qr HO331.out) hb)
      have n17_ := Aside0.mk (Kd.R_below (qr HO334.out) hb)
      have n18_ := Aside0.mk (Kd.S_below (qs HO337.out) hb)
      have n19_ := Aside0.mk (Kd.S_below (qs HO340.out) hb)
      have n20_ := Aside0.mk (blk_below (g := gb273) (o := .cells #[.slice A0_0 l0_0.length c0_0, .slice A0_1 l0_1.length c0_1, .slice A0_2 l0_2.length c0_2, .slice A0_3 l0_3.length c0_3] 28 (0, 0)) (qk BK273.out) hb)
      have n21_ := Aside0.mk (blk_below (g := gb274) (o := .cells #[.slice A1_0 l1_0.length c1_0, .slice A1_1 l1_1.length c1_1, .slice A1_2 l1_2.length c1_2, .slice A1_3 l1_3.length c1_3] 28 (0, 0)) (qk BK274.out) hb)
      have n22_ := Aside0.mk (blk_below (g := gb314) (o := .cells #[.slice Ao54 t302.length co54, .slice Ao58 t305.length co58, .slice Ao59 t308.length co59, .slice Ao60 t311.length co60] 39 (0, 0)) (qk BK314.out) hb)
      have n23_ := Aside0.mk (blk_below (g := gb327) (o := .cells #[.slice Ao64 t315.length co64, .slice Ao69 t318.length co69, .slice Ao70 t321.length co70, .slice Ao71 t324.length co71] 39 (0, 0)) (qk BK327.out) hb)
      have n24_ := Aside0.mk (below_step (qb4 HB.out GE273.out GE274.out GE314.out GE327.out) hb)
      clear HO279
      clear HO282
      clear HO285
      clear HO288
      clear HO291
      clear HO294
      clear HO297
      clear HO300
      clear HO304
      clear HO307
      clear HO310
      clear HO313
      clear HO317
      clear HO320
      clear HO323
      clear HO326
      clear HO331
      clear HO334
      clear HO337
      clear HO340
      clear BK273
      clear BK274
      clear BK314
      clear BK327
      clear HB
      have HO279 := n0_
      have HO282 := n1_
      have HO285 := n2_
      have HO288 := n3_
      have HO291 := n4_
      have HO294 := n5_
      have HO297 := n6_
      have HO300 := n7_
      have HO304 := n8_
      have HO307 := n9_
      have HO310 := n10_
      have HO313 := n11_
      have HO317 := n12_
      have HO320 := n13_
      have HO323 := n14_
      have HO326 := n15_
      have HO331 := n16_
      have HO334 := n17_
      have HO337 := n18_
      have HO340 := n19_
      have BK273 := n20_
      have BK274 := n21_
      have BK314 := n22_
      have BK327 := n23_
      have HB := n24_
      clear n0_ n1_ n2_ n3_ n4_ n5_ n6_ n7_ n8_ n9_ n10_ n11_ n12_ n13_ n14_ n15_ n16_ n17_ n18_ n19_ n20_ n21_ n22_ n23_ n24_
      (try clear hb)
      (try clear hb2)
      (try clear hk)
      (try clear hi)
      refine hK.out _ _ ⟨(blk_cell BK314.out 0).trans rfl, (blk_cell BK314.out 1).trans rfl, (blk_cell BK314.out 2).trans rfl, (blk_cell BK314.out 3).trans rfl, (blk_cell BK273.out 0).trans rfl, (blk_cell BK273.out 1).trans rfl, (blk_cell BK273.out 2).trans rfl, (blk_cell BK273.out 3).trans rfl⟩ (fun hHeld => ?_)
      clear hK K
      refine norm_ (a' := ?_) ?_ ?_
      rotate_left
      ·show Act.put _ (some 38) _ = _
       refine qp ?_
       rfl
      refine pure_ (i := 4) (N := some 39) (v := ?_) (a' := ?_) #[true, true, true, true, true] rfl rfl (by kernel_rfl) (fun _ _ _ h => h) (Or.inl ⟨by rfl, ?_⟩) ?_ ?_
      rotate_left
      ·intro w'
       go_simp
       with_reducible rfl
      rotate_left
      ·refine qp ?_
       rfl
      refine done_ (by kernel_rfl) ?_
      try go_wp2
      have n0_ := Aside0.mk (Kd.R_drew HO279.out)
      have n1_ := Aside0.mk (Kd.R_drew HO282.out)
      have n2_ := Aside0.mk (Kd.S_drew HO285.out)
      have n3_ := Aside0.mk (Kd.S_drew HO288.out)
      have n4_ := Aside0.mk (Kd.R_drew HO291.out)
      have n5_ := Aside0.mk (Kd.R_drew HO294.out)
      have n6_ := Aside0.mk (Kd.S_drew HO297.out)
      have n7_ := Aside0.mk (Kd.S_drew HO300.out)
      have n8_ := Aside0.mk (Kd.R_drew HO304.out)
      have n9_ := Aside0.mk (Kd.R_drew HO307.out)
      have n10_ := Aside0.mk (Kd.S_drew HO310.out)
      have n11_ := Aside0.mk (Kd.S_drew HO313.out)
      have n12_ := Aside0.mk (Kd.R_drew HO317.out)
      have n13_ := Aside0.mk (Kd.R_drew HO320.out)
      have n14_ := Aside0.mk (Kd.S_drew HO323.out)
      have n15_ := Aside0.mk (Kd.S_drew HO326.out)
      have n16_ := Aside0.mk (Kd.R_drew HO331.out)
      have n17_ := Aside0.mk (Kd.R_drew HO334.out)
      have n18_ := Aside0.mk (Kd.S_drew HO337.out)
      have n19_ := Aside0.mk (Kd.S_drew HO340.out)
      have n20_ := Aside0.mk (blk_drew BK273.out)
      have n21_ := Aside0.mk (blk_drew BK274.out)
      have n22_ := Aside0.mk (blk_drew BK314.out)
      have n23_ := Aside0.mk (blk_drew BK327.out)
      have n24_ := Aside0.mk (below_drew1 HB.out)
      clear HO279
      clear HO282
      clear HO285
      clear HO288
      clear HO291
      clear HO294
      clear HO297
      clear HO300
      clear HO304
      clear HO307
      clear HO310
      clear HO313
      clear HO317
      clear HO320
      clear HO323
      clear HO326
      clear HO331
      clear HO334
      clear HO337
      clear HO340
      clear BK273
      clear BK274
      clear BK314
      clear BK327
      clear HB
      have HO279 := n0_
      have HO282 := n1_
      have HO285 := n2_
      have HO288 := n3_
      have HO291 := n4_
      have HO294 := n5_
      have HO297 := n6_
      have HO300 := n7_
      have HO304 := n8_
      have HO307 := n9_
      have HO310 := n10_
      have HO313 := n11_
      have HO317 := n12_
      have HO320 := n13_
      have HO323 := n14_
      have HO326 := n15_
      have HO331 := n16_
      have HO334 := n17_
      have HO337 := n18_
      have HO340 := n19_
      have BK273 := n20_
      have BK274 := n21_
      have BK314 := n22_
      have BK327 := n23_
      have HB := n24_
      clear n0_ n1_ n2_ n3_ n4_ n5_ n6_ n7_ n8_ n9_ n10_ n11_ n12_ n13_ n14_ n15_ n16_ n17_ n18_ n19_ n20_ n21_ n22_ n23_ n24_
      refine start_ (n := 5) (S := fun w' => w'.cell? ⟨gb327, 0, none⟩ = some (.slice Ao64 t315.length co64) ∧ w'.cell? ⟨gb327, 1, none⟩ = some (.slice Ao69 t318.length co69) ∧ w'.cell? ⟨gb327, 2, none⟩ = some (.slice Ao70 t321.length co70) ∧ w'.cell? ⟨gb327, 3, none⟩ = some (.slice Ao71 t324.length co71) ∧ w'.cell? ⟨gb274, 0, none⟩ = some (.slice A1_0 l1_0.length c1_0) ∧ w'.cell? ⟨gb274, 1, none⟩ = some (.slice A1_1 l1_1.length c1_1) ∧ w'.cell? ⟨gb274, 2, none⟩ = some (.slice A1_2 l1_2.length c1_2) ∧ w'.cell? ⟨gb274, 3, none⟩ = some (.slice A1_3 l1_3.length c1_3)) (ds := []) #[false, false, false, false, false] (by kernel_rfl) rfl rfl ⟨(blk_cell BK327.out 0).trans rfl, (blk_cell BK327.out 1).trans rfl, (blk_cell BK327.out 2).trans rfl, (blk_cell BK327.out 3).trans rfl, (blk_cell BK274.out 0).trans rfl, (blk_cell BK274.out 1).trans rfl, (blk_cell BK274.out 2).trans rfl, (blk_cell BK274.out 3).trans rfl⟩ (fun hHeld => ?_)
      generalize w80.drew = w81 at HO279 HO282 HO285 HO288 HO291 HO294 HO297 HO300 HO304 HO307 HO310 HO313 HO317 HO320 HO323 HO326 HO331 HO334 HO337 HO340 BK273 BK274 BK314 BK327 HB hHeld ⊢
      refine take_ (i := 0) (N := some 40) (v := ?_) (a' := ?_) #[true, false, false, false, false] rfl rfl (by kernel_rfl) (fun _ _ _ h => h) (Or.inl ⟨by rfl, ?_⟩) hHeld ?_ ?_
      rotate_left
      ·rintro w' ⟨s0, s1, s2, s3, s4, s5, s6, s7⟩
       go_simp
       with_reducible rfl
      rotate_left
      ·refine qp ?_
       rfl
      refine take_ (i := 1) (N := some 41) (v := ?_) (a' := ?_) #[true, true, false, false, false] rfl rfl (by kernel_rfl) (fun _ _ _ h => h) (Or.inl ⟨by rfl, ?_⟩) hHeld ?_ ?_
      rotate_left
      ·rintro w' ⟨s0, s1, s2, s3, s4, s5, s6, s7⟩
       go_simp
       with_reducible rfl
      rotate_left
      ·refine qp ?_
       rfl
      refine one_ (i := 2) (N := some 42) #[true, true, true, false, false] rfl rfl (by kernel_rfl) (by decide) (fun K hK => ?_)
      refine goes_ Try.func16 (by kernel_rfl) rfl #[.agg #[.slice A1_0 l1_0.length c1_0, .slice A1_1 l1_1.length c1_1, .slice A1_2 l1_2.length c1_2, .slice A1_3 l1_3.length c1_3]] (by rfl) rfl rfl qm ?_
      with_reducible refine (laws_toDisk.calls k _ _ l1_0 _ _ l1_1 _ _ l1_2 _ _ l1_3 t342 t345 t348 t351 _ ?side1 ?side2 ?side3 ?side4 ?side5 ?side6 ?side7 ?side8 A29.out).mono ?_
      (case side1 => repeat (first | exact (Kd.C_below HR1_0.out HB.out) | (with_reducible refine Kd.C_alloc ?_ _) | (with_reducible refine Kd.C_drewN ?_ _) | (with_reducible refine Kd.C_drew ?_)))
      (case side2 => exact HC1_0.out)
      (case side3 => repeat (first | exact (Kd.C_below HR1_1.out HB.out) | (with_reducible refine Kd.C_alloc ?_ _) | (with_reducible refine Kd.C_drewN ?_ _) | (with_reducible refine Kd.C_drew ?_)))
      (case side4 => exact HC1_1.out)
      (case side5 => repeat (first | exact (Kd.C_below HR1_2.out HB.out) | (with_reducible refine Kd.C_alloc ?_ _) | (with_reducible refine Kd.C_drewN ?_ _) | (with_reducible refine Kd.C_drew ?_)))
      (case side6 => exact HC1_2.out)
      (case side7 => repeat (first | exact (Kd.C_below HR1_3.out HB.out) | (with_reducible refine Kd.C_alloc ?_ _) | (with_reducible refine Kd.C_drewN ?_ _) | (with_reducible refine Kd.C_drew ?_)))
      (case side8 => exact HC1_3.out)
      rintro e w82 ⟨v343, v346, v349, v352, rfl, ho0, ho1, ho2, ho3, hb⟩
      refine ⟨_, rfl, ?_⟩
      have n0_ := Aside0.mk (Kd.R_mono (Kd.R_told (Kd.R_told (Kd.R_old (qr HO279.out) hb) (Kd.R_base ho0)) (Kd.R_base ho1)) (fun _ h_ => h_.1))
      have n1_ := Aside0.mk (Kd.R_mono (Kd.R_told (Kd.R_told (Kd.R_old (qr HO282.out) hb) (Kd.R_base ho0)) (Kd.R_base ho1)) (fun _ h_ => h_.1))
      have n2_ := Aside0.mk (Kd.S_elder' (qs HO285.out) (Kd.S_base ho2) hb)
      have n3_ := Aside0.mk (Kd.S_elder' (qs HO288.out) (Kd.S_base ho3) hb)
      have n4_ := Aside0.mk (Kd.R_mono (Kd.R_told (Kd.R_told (Kd.R_old (qr HO291.out) hb) (Kd.R_base ho0)) (Kd.R_base ho1)) (fun _ h_ => h_.1))
      have n5_ := Aside0.mk (Kd.R_mono (Kd.R_told (Kd.R_told (Kd.R_old (qr HO294.out) hb) (Kd.R_base ho0)) (Kd.R_base ho1)) (fun _ h_ => h_.1))
      have n6_ := Aside0.mk (Kd.S_elder' (qs HO297.out) (Kd.S_base ho2) hb)
      have n7_ := Aside0.mk (Kd.S_elder' (qs HO300.out) (Kd.S_base ho3) hb)
      have n8_ := Aside0.mk (Kd.R_mono (Kd.R_told (Kd.R_told (Kd.R_old (qr HO304.out) hb) (Kd.R_base ho0)) (Kd.R_base ho1)) (fun _ h_ => h_.1))
      have n9_ := Aside0.mk (Kd.R_mono (Kd.R_told (Kd.R_told (Kd.R_old (qr HO307.out) hb) (Kd.R_base ho0)) (Kd.R_base ho1)) (fun _ h_ => h_.1))
      have n10_ := Aside0.mk (Kd.S_elder' (qs HO310.out) (Kd.S_base ho2) hb)
      have n11_ := Aside0.mk (Kd.S_elder' (qs HO313.out) (Kd.S_base ho3) hb)
      have n12_ := Aside0.mk (Kd.R_mono (Kd.R_told (Kd.R_told (Kd.R_old (qr HO317.out) hb) (Kd.R_base ho0)) (Kd.R_base ho1)) (fun _ h_ => h_.1))
      have n13_ := Aside0.mk (Kd.R_mono (Kd.R_told (Kd.R_told (Kd.R_old (qr HO320.out) hb) (Kd.R_base ho0)) (Kd.R_base ho1)) (fun _ h_ => h_.1))
      have n14_ := Aside0.mk (Kd.S_elder' (qs HO323.out) (Kd.S_base ho2) hb)
      have n15_ := Aside0.mk (Kd.S_elder' (qs HO326.out) (Kd.S_base ho3) hb)
      have n16_ := Aside0.mk (Kd.R_mono (Kd.R_told (Kd.R_told (Kd.R_old (qr HO331.out) hb) (Kd.R_base ho0)) (Kd.R_base ho1)) (fun _ h_ => h_.1))
      have n17_ := Aside0.mk (Kd.R_mono (Kd.R_told (Kd.R_told (Kd.R_old (qr HO334.out) hb) (Kd.R_base ho0)) (Kd.R_base ho1)) (fun _ h_ => h_.1))
      have n18_ := Aside0.mk (Kd.S_elder' (qs HO337.out) (Kd.S_base ho2) hb)
      have n19_ := Aside0.mk (Kd.S_elder' (qs HO340.out) (Kd.S_base ho3) hb)
      have n20_ := Aside0.mk (Kd.R_lower (Kd.R_new' (Kd.R_new' (Kd.R_new' (Kd.R_new' (Kd.R_new' (Kd.R_new' (Kd.R_new' (Kd.R_new' (Kd.R_new' (Kd.R_new' ho0 (Kd.R_lt (qr HO279.out))) (Kd.R_lt (qr HO282.out))) (Kd.R_lt (qr HO291.out))) (Kd.R_lt (qr HO294.out))) (Kd.R_lt (qr HO304.out))) (Kd.R_lt (qr HO307.out))) (Kd.R_lt (qr HO317.out))) (Kd.R_lt (qr HO320.out))) (Kd.R_lt (qr HO331.out))) (Kd.R_lt (qr HO334.out))) (below_size (qb4 HB.out GE273.out GE274.out GE314.out GE327.out)))
      have n21_ := Aside0.mk (Kd.R_lower (Kd.R_new' (Kd.R_new' (Kd.R_new' (Kd.R_new' (Kd.R_new' (Kd.R_new' (Kd.R_new' (Kd.R_new' (Kd.R_new' (Kd.R_new' ho1 (Kd.R_lt (qr HO279.out))) (Kd.R_lt (qr HO282.out))) (Kd.R_lt (qr HO291.out))) (Kd.R_lt (qr HO294.out))) (Kd.R_lt (qr HO304.out))) (Kd.R_lt (qr HO307.out))) (Kd.R_lt (qr HO317.out))) (Kd.R_lt (qr HO320.out))) (Kd.R_lt (qr HO331.out))) (Kd.R_lt (qr HO334.out))) (below_size (qb4 HB.out GE273.out GE274.out GE314.out GE327.out)))
      have n22_ := Aside0.mk (Kd.S_lower (Kd.S_new' (Kd.S_new' (Kd.S_new' (Kd.S_new' (Kd.S_new' ho2 (Kd.S_lt (qs HO285.out))) (Kd.S_lt (qs HO297.out))) (Kd.S_lt (qs HO310.out))) (Kd.S_lt (qs HO323.out))) (Kd.S_lt (qs HO337.out))) (below_size (qb4 HB.out GE273.out GE274.out GE314.out GE327.out)))
      have n23_ := Aside0.mk (Kd.S_lower (Kd.S_new' (Kd.S_new' (Kd.S_new' (Kd.S_new' (Kd.S_new' ho3 (Kd.S_lt (qs HO288.out))) (Kd.S_lt (qs HO300.out))) (Kd.S_lt (qs HO313.out))) (Kd.S_lt (qs HO326.out))) (Kd.S_lt (qs HO340.out))) (below_size (qb4 HB.out GE273.out GE274.out GE314.out GE327.out)))
      have n24_ := Aside0.mk (blk_below (g := gb273) (o := .cells #[.slice A0_0 l0_0.length c0_0, .slice A0_1 l0_1.length c0_1, .slice A0_2 l0_2.length c0_2, .slice A0_3 l0_3.length c0_3] 28 (0, 0)) (qk BK273.out) hb)
      have n25_ := Aside0.mk (blk_below (g := gb274) (o := .cells #[.slice A1_0 l1_0.length c1_0, .slice A1_1 l1_1.length c1_1, .slice A1_2 l1_2.length c1_2, .slice A1_3 l1_3.length c1_3] 28 (0, 0)) (qk BK274.out) hb)
      have n26_ := Aside0.mk (blk_below (g := gb314) (o := .cells #[.slice Ao54 t302.length co54, .slice Ao58 t305.length co58, .slice Ao59 t308.length co59, .slice Ao60 t311.length co60] 39 (0, 0)) (qk BK314.out) hb)
      have n27_ := Aside0.mk (blk_below (g := gb327) (o := .cells #[.slice Ao64 t315.length co64, .slice Ao69 t318.length co69, .slice Ao70 t321.length co70, .slice Ao71 t324.length co71] 39 (0, 0)) (qk BK327.out) hb)
      have n28_ := Aside0.mk (below_step (qb4 HB.out GE273.out GE274.out GE314.out GE327.out) hb)
      clear HO279
      clear HO282
      clear HO285
      clear HO288
      clear HO291
      clear HO294
      clear HO297
      clear HO300
      clear HO304
      clear HO307
      clear HO310
      clear HO313
      clear HO317
      clear HO320
      clear HO323
      clear HO326
      clear HO331
      clear HO334
      clear HO337
      clear HO340
      clear BK273
      clear BK274
      clear BK314
      clear BK327
      clear HB
      have HO279 := n0_
      have HO282 := n1_
      have HO285 := n2_
      have HO288 := n3_
      have HO291 := n4_
      have HO294 := n5_
      have HO297 := n6_
      have HO300 := n7_
      have HO304 := n8_
      have HO307 := n9_
      have HO310 := n10_
      have HO313 := n11_
      have HO317 := n12_
      have HO320 := n13_
      have HO323 := n14_
      have HO326 := n15_
      have HO331 := n16_
      have HO334 := n17_
      have HO337 := n18_
      have HO340 := n19_
      have HO344 := n20_
      have HO347 := n21_
      have HO350 := n22_
      have HO353 := n23_
      have BK273 := n24_
      have BK274 := n25_
      have BK314 := n26_
      have BK327 := n27_
      have HB := n28_
      clear n0_ n1_ n2_ n3_ n4_ n5_ n6_ n7_ n8_ n9_ n10_ n11_ n12_ n13_ n14_ n15_ n16_ n17_ n18_ n19_ n20_ n21_ n22_ n23_ n24_ n25_ n26_ n27_ n28_
      (try clear hb)
      (try clear hb2)
      (try clear hk)
      (try clear hi)
      (try clear ho0)
      (try clear ho1)
      (try clear ho2)
      (try clear ho3)
      obtain ⟨Ao83, co83, eo83⟩ := Kd.R_slice HO344.out
      (first | subst eo83 | (injection eo83 with f1_ f2_ f3_; have f4_ := f1_.symm; have f5_ := f3_.symm; clear f1_ f2_ f3_; subst f4_; subst f5_))
      obtain ⟨Ao84, co84, eo84⟩ := Kd.R_slice HO347.out
      (first | subst eo84 | (injection eo84 with f1_ f2_ f3_; have f4_ := f1_.symm; have f5_ := f3_.symm; clear f1_ f2_ f3_; subst f4_; subst f5_))
      obtain ⟨Ao85, co85, eo85⟩ := Kd.S_slice HO350.out
      (first | subst eo85 | (injection eo85 with f1_ f2_ f3_; have f4_ := f1_.symm; have f5_ := f3_.symm; clear f1_ f2_ f3_; subst f4_; subst f5_))
      obtain ⟨Ao86, co86, eo86⟩ := Kd.S_slice HO353.out
      (first | subst eo86 | (injection eo86 with f1_ f2_ f3_; have f4_ := f1_.symm; have f5_ := f3_.symm; clear f1_ f2_ f3_; subst f4_; subst f5_))
      refine hK.out _ _ ⟨(blk_cell BK327.out 0).trans rfl, (blk_cell BK327.out 1).trans rfl, (blk_cell BK327.out 2).trans rfl, (blk_cell BK327.out 3).trans rfl, (blk_cell BK274.out 0).trans rfl, (blk_cell BK274.out 1).trans rfl, (blk_cell BK274.out 2).trans rfl, (blk_cell BK274.out 3).trans rfl⟩ (fun hHeld => ?_)
      clear hK K
      refine norm_ (a' := ?_) ?_ ?_
      rotate_left
      ·show Act.put _ (some 42) _ = _
       refine qp ?_
       rfl
      refine one_ (i := 3) (N := some 43) #[true, true, true, true, false] rfl rfl (by kernel_rfl) (by decide) (fun K hK => ?_)
      refine goes_ Try.func19 (by kernel_rfl) rfl #[.agg #[.slice Ao64 t315.length co64, .slice Ao69 t318.length co69, .slice Ao70 t321.length co70, .slice Ao71 t324.length co71], .agg #[.slice Ao83 t342.length co83, .slice Ao84 t345.length co84, .slice Ao85 t348.length co85, .slice Ao86 t351.length co86]] (by rfl) rfl rfl qm ?_
      with_reducible refine (laws_eqDisk.calls k _ _ t315 _ _ t318 _ _ t321 _ _ t324 _ _ t342 _ _ t345 _ _ t348 _ _ t351 true _ ?side1 ?side2 ?side3 ?side4 ?side5 ?side6 ?side7 ?side8 ?side9 ?side10 ?side11 ?side12 ?side13 ?side14 ?side15 ?side16 A30.out).mono ?_
      (case side1 => repeat (first | exact (Kd.R_reads' HO317.out).2.2 | (with_reducible refine Kd.C_alloc ?_ _) | (with_reducible refine Kd.C_drewN ?_ _) | (with_reducible refine Kd.C_drew ?_)))
      (case side2 => exact (Kd.R_reads' HO317.out).2.1)
      (case side3 => repeat (first | exact (Kd.R_reads' HO320.out).2.2 | (with_reducible refine Kd.C_alloc ?_ _) | (with_reducible refine Kd.C_drewN ?_ _) | (with_reducible refine Kd.C_drew ?_)))
      (case side4 => exact (Kd.R_reads' HO320.out).2.1)
      (case side5 => repeat (first | exact (Kd.S_reads' HO323.out).2.2 | (with_reducible refine Kd.C_alloc ?_ _) | (with_reducible refine Kd.C_drewN ?_ _) | (with_reducible refine Kd.C_drew ?_)))
      (case side6 => exact (Kd.S_reads' HO323.out).2.1)
      (case side7 => repeat (first | exact (Kd.S_reads' HO326.out).2.2 | (with_reducible refine Kd.C_alloc ?_ _) | (with_reducible refine Kd.C_drewN ?_ _) | (with_reducible refine Kd.C_drew ?_)))
      (case side8 => exact (Kd.S_reads' HO326.out).2.1)
      (case side9 => repeat (first | exact (Kd.R_reads' HO344.out).2.2 | (with_reducible refine Kd.C_alloc ?_ _) | (with_reducible refine Kd.C_drewN ?_ _) | (with_reducible refine Kd.C_drew ?_)))
      (case side10 => exact (Kd.R_reads' HO344.out).2.1)
      (case side11 => repeat (first | exact (Kd.R_reads' HO347.out).2.2 | (with_reducible refine Kd.C_alloc ?_ _) | (with_reducible refine Kd.C_drewN ?_ _) | (with_reducible refine Kd.C_drew ?_)))
      (case side12 => exact (Kd.R_reads' HO347.out).2.1)
      (case side13 => repeat (first | exact (Kd.S_reads' HO350.out).2.2 | (with_reducible refine Kd.C_alloc ?_ _) | (with_reducible refine Kd.C_drewN ?_ _) | (with_reducible refine Kd.C_drew ?_)))
      (case side14 => exact (Kd.S_reads' HO350.out).2.1)
      (case side15 => repeat (first | exact (Kd.S_reads' HO353.out).2.2 | (with_reducible refine Kd.C_alloc ?_ _) | (with_reducible refine Kd.C_drewN ?_ _) | (with_reducible refine Kd.C_drew ?_)))
      (case side16 => exact (Kd.S_reads' HO353.out).2.1)
      rintro e w87 ⟨rfl, hb⟩
      refine ⟨_, rfl, ?_⟩
      have n0_ := Aside0.mk (Kd.R_below (qr HO279.out) hb)
      have n1_ := Aside0.mk (Kd.R_below (qr HO282.out) hb)
      have n2_ := Aside0.mk (Kd.S_below (qs HO285.out) hb)
      have n3_ := Aside0.mk (Kd.S_below (qs HO288.out) hb)
      have n4_ := Aside0.mk (Kd.R_below (qr HO291.out) hb)
      have n5_ := Aside0.mk (Kd.R_below (qr HO294.out) hb)
      have n6_ := Aside0.mk (Kd.S_below (qs HO297.out) hb)
      have n7_ := Aside0.mk (Kd.S_below (qs HO300.out) hb)
      have n8_ := Aside0.mk (Kd.R_below (qr HO304.out) hb)
      have n9_ := Aside0.mk (Kd.R_below (qr HO307.out) hb)
      have n10_ := Aside0.mk (Kd.S_below (qs HO310.out) hb)
      have n11_ := Aside0.mk (Kd.S_below (qs HO313.out) hb)
      have n12_ := Aside0.mk (Kd.R_below (qr HO317.out) hb)
      have n13_ := Aside0.mk (Kd.R_below (qr HO320.out) hb)
      have n14_ := Aside0.mk (Kd.S_below (qs HO323.out) hb)
      have n15_ := Aside0.mk (Kd.S_below (qs HO326.out) hb)
      have n16_ := Aside0.mk (Kd.R_below (qr HO331.out) hb)
      have n17_ := Aside0.mk (Kd.R_below (qr HO334.out) hb)
      have n18_ := Aside0.mk (Kd.S_below (qs HO337.out) hb)
      have n19_ := Aside0.mk (Kd.S_below (qs HO340.out) hb)
      have n20_ := Aside0.mk (Kd.R_below (qr HO344.out) hb)
      have n21_ := Aside0.mk (Kd.R_below (qr HO347.out) hb)
      have n22_ := Aside0.mk (Kd.S_below (qs HO350.out) hb)
      have n23_ := Aside0.mk (Kd.S_below (qs HO353.out) hb)
      have n24_ := Aside0.mk (blk_below (g := gb273) (o := .cells #[.slice A0_0 l0_0.length c0_0, .slice A0_1 l0_1.length c0_1, .slice A0_2 l0_2.length c0_2, .slice A0_3 l0_3.length c0_3] 28 (0, 0)) (qk BK273.out) hb)
      have n25_ := Aside0.mk (blk_below (g := gb274) (o := .cells #[.slice A1_0 l1_0.length c1_0, .slice A1_1 l1_1.length c1_1, .slice A1_2 l1_2.length c1_2, .slice A1_3 l1_3.length c1_3] 28 (0, 0)) (qk BK274.out) hb)
      have n26_ := Aside0.mk (blk_below (g := gb314) (o := .cells #[.slice Ao54 t302.length co54, .slice Ao58 t305.length co58, .slice Ao59 t308.length co59, .slice Ao60 t311.length co60] 39 (0, 0)) (qk BK314.out) hb)
      have n27_ := Aside0.mk (blk_below (g := gb327) (o := .cells #[.slice Ao64 t315.length co64, .slice Ao69 t318.length co69, .slice Ao70 t321.length co70, .slice Ao71 t324.length co71] 39 (0, 0)) (qk BK327.out) hb)
      have n28_ := Aside0.mk (below_step (qb4 HB.out GE273.out GE274.out GE314.out GE327.out) hb)
      clear HO279
      clear HO282
      clear HO285
      clear HO288
      clear HO291
      clear HO294
      clear HO297
      clear HO300
      clear HO304
      clear HO307
      clear HO310
      clear HO313
      clear HO317
      clear HO320
      clear HO323
      clear HO326
      clear HO331
      clear HO334
      clear HO337
      clear HO340
      clear HO344
      clear HO347
      clear HO350
      clear HO353
      clear BK273
      clear BK274
      clear BK314
      clear BK327
      clear HB
      have HO279 := n0_
      have HO282 := n1_
      have HO285 := n2_
      have HO288 := n3_
      have HO291 := n4_
      have HO294 := n5_
      have HO297 := n6_
      have HO300 := n7_
      have HO304 := n8_
      have HO307 := n9_
      have HO310 := n10_
      have HO313 := n11_
      have HO317 := n12_
      have HO320 := n13_
      have HO323 := n14_
      have HO326 := n15_
      have HO331 := n16_
      have HO334 := n17_
      have HO337 := n18_
      have HO340 := n19_
      have HO344 := n20_
      have HO347 := n21_
      have HO350 := n22_
      have HO353 := n23_
      have BK273 := n24_
      have BK274 := n25_
      have BK314 := n26_
      have BK327 := n27_
      have HB := n28_
      clear n0_ n1_ n2_ n3_ n4_ n5_ n6_ n7_ n8_ n9_ n10_ n11_ n12_ n13_ n14_ n15_ n16_ n17_ n18_ n19_ n20_ n21_ n22_ n23_ n24_ n25_ n26_ n27_ n28_
      (try clear hb)
      (try clear hb2)
      (try clear hk)
      (try clear hi)
      refine hK.out _ _ ⟨(blk_cell BK327.out 0).trans rfl, (blk_cell BK327.out 1).trans rfl, (blk_cell BK327.out 2).trans rfl, (blk_cell BK327.out 3).trans rfl, (blk_cell BK274.out 0).trans rfl, (blk_cell BK274.out 1).trans rfl, (blk_cell BK274.out 2).trans rfl, (blk_cell BK274.out 3).trans rfl⟩ (fun hHeld => ?_)
      clear hK K
      refine norm_ (a' := ?_) ?_ ?_
      rotate_left
      ·show Act.put _ (some 43) _ = _
       refine qp ?_
       rfl
      refine pure_ (i := 4) (N := some 44) (v := ?_) (a' := ?_) #[true, true, true, true, true] rfl rfl (by kernel_rfl) (fun _ _ _ h => h) (Or.inl ⟨by rfl, ?_⟩) ?_ ?_
      rotate_left
      ·intro w'
       go_simp
       with_reducible rfl
      rotate_left
      ·refine qp ?_
       rfl
      refine done_ (by kernel_rfl) ?_
      try go_wp2
      go_ret
      exact ⟨qe, qb4 HB.out GE273.out GE274.out GE314.out GE327.out⟩
     ·replace c31 := Bool.eq_false_iff.mpr c31
      subst c31
      have H1 : (some false) = some r := by rw [if_neg (show ¬ (false = true) by decide)] at H; exact H
      clear H
      have H := H1
      clear H1
      exact absurd ((Option.some.inj H).trans hr_.out) (by decide)
    ·replace c28 := Bool.eq_false_iff.mpr c28
     subst c28
     have H1 : (some false) = some r := by rw [if_neg (show ¬ (false = true) by decide)] at H; exact H
     clear H
     have H := H1
     clear H1
     exact absurd ((Option.some.inj H).trans hr_.out) (by decide)

def good24 (x : S24) : Prop := (x.f0.length * 1 ≤ 140737488351232 ∧ ∀ x0 ∈ x.f0, True) ∧ (x.f1.length * 1 ≤ 140737488351232 ∧ ∀ x0 ∈ x.f1, True)
def good142 (x : S142) : Prop := ((Lit.int .i64 x.f0).wf = true) ∧ ((Lit.int .i64 x.f1).wf = true) ∧ (x.f2.length * 8 ≤ 140737488351232 ∧ ∀ x0 ∈ x.f2, (Lit.int .i64 x0).wf = true)
def good151 (x : S151) : Prop := (x.f0.size ≤ 140737488351232) ∧ ((Lit.int .i64 x.f1).wf = true)
def good54 (x : S54) : Prop := (True) ∧ (x.f1.length * 24 ≤ 140737488351232 ∧ ∀ x0 ∈ x.f1, good151 x0) ∧ (x.f2.size ≤ 140737488351232)
def good28 (x : S28) : Prop := (good24 x.f0) ∧ (x.f1.length * 40 ≤ 140737488351232 ∧ ∀ x0 ∈ x.f1, good142 x0) ∧ (x.f2.length * 48 ≤ 140737488351232 ∧ ∀ x0 ∈ x.f2, good54 x0)
/-- THE ONE PURE STATEMENT of laws_FnExactSameDisk. -/
def laws_FnExactSameDisk.Pure : Prop := ∀ (l0_0 : List Bool) (l0_1 : List Bool) (l0_2 : List (S142)) (l0_3 : List (S54)) (l1_0 : List Bool) (l1_1 : List Bool) (l1_2 : List (S142)) (l1_3 : List (S54)), (good28 (⟨(⟨l0_0, l0_1⟩ : S24), l0_2, l0_3⟩ : S28)) → (good28 (⟨(⟨l1_0, l1_1⟩ : S24), l1_2, l1_3⟩ : S28)) → ∃ k, laws_FnExactSameDisk.f k l0_0 l0_1 l0_2 l0_3 l1_0 l1_1 l1_2 l1_3 = some true
theorem laws_FnExactSameDisk.walk (P : laws_FnExactSameDisk.Pure) (A0_0 : Option Addr) (c0_0 : Nat) (l0_0 : List Bool) (A0_1 : Option Addr) (c0_1 : Nat) (l0_1 : List Bool) (A0_2 : Option Addr) (c0_2 : Nat) (l0_2 : List (S142)) (A0_3 : Option Addr) (c0_3 : Nat) (l0_3 : List (S54)) (A1_0 : Option Addr) (c1_0 : Nat) (l1_0 : List Bool) (A1_1 : Option Addr) (c1_1 : Nat) (l1_1 : List Bool) (A1_2 : Option Addr) (c1_2 : Nat) (l1_2 : List (S142)) (A1_3 : Option Addr) (c1_3 : Nat) (l1_3 : List (S54)) (w : World) (g0 : good28 (⟨(⟨l0_0, l0_1⟩ : S24), l0_2, l0_3⟩ : S28)) (g1 : good28 (⟨(⟨l1_0, l1_1⟩ : S24), l1_2, l1_3⟩ : S28)) (hr0_0 : Kd.C Kd.bool w A0_0 l0_0.length l0_0) (hc0_0 : l0_0.length ≤ c0_0) (hr0_1 : Kd.C Kd.bool w A0_1 l0_1.length l0_1) (hc0_1 : l0_1.length ≤ c0_1) (hr0_2 : Kd.C k142 w A0_2 l0_2.length l0_2) (hc0_2 : l0_2.length ≤ c0_2) (hr0_3 : Kd.C k54 w A0_3 l0_3.length l0_3) (hc0_3 : l0_3.length ≤ c0_3) (hr1_0 : Kd.C Kd.bool w A1_0 l1_0.length l1_0) (hc1_0 : l1_0.length ≤ c1_0) (hr1_1 : Kd.C Kd.bool w A1_1 l1_1.length l1_1) (hc1_1 : l1_1.length ≤ c1_1) (hr1_2 : Kd.C k142 w A1_2 l1_2.length l1_2) (hc1_2 : l1_2.length ≤ c1_2) (hr1_3 : Kd.C k54 w A1_3 l1_3.length l1_3) (hc1_3 : l1_3.length ≤ c1_3) :
  Calls Try.prog 11 #[.agg #[.slice A0_0 l0_0.length c0_0, .slice A0_1 l0_1.length c0_1, .slice A0_2 l0_2.length c0_2, .slice A0_3 l0_3.length c0_3], .agg #[.slice A1_0 l1_0.length c1_0, .slice A1_1 l1_1.length c1_1, .slice A1_2 l1_2.length c1_2, .slice A1_3 l1_3.length c1_3]] w fun e w' => e = .returned (.bool true) ∧ Below w.heap.size w w' := by
 obtain ⟨k, h⟩ := P l0_0 l0_1 l0_2 l0_3 l1_0 l1_1 l1_2 l1_3 g0 g1
 refine (laws_FnExactSameDisk.calls k _ _ l0_0 _ _ l0_1 _ _ l0_2 _ _ l0_3 _ _ l1_0 _ _ l1_1 _ _ l1_2 _ _ l1_3 true w hr0_0 hc0_0 hr0_1 hc0_1 hr0_2 hc0_2 hr0_3 hc0_3 hr1_0 hc1_0 hr1_1 hc1_1 hr1_2 hc1_2 hr1_3 hc1_3 h ⟨rfl⟩).mono ?_
 rintro e w' ⟨rfl, hd⟩
 exact ⟨rfl, hd⟩

end Go.Proofs.Ytdnbpapolckklaa.PFnExactSameDisk
