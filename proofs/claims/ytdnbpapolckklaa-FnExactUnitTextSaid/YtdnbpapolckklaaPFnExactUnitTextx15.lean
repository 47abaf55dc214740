-- Written by a program of this session (a changed copy of the kit's print: wip/print2). Lean checks it.
import Derived.Test.YtdnbpapolckklaaPFnExactUnitTextx0
import Derived.Test.YtdnbpapolckklaaPFnExactUnitTextx2
import Derived.Test.YtdnbpapolckklaaPFnExactUnitTextx3
import Derived.Test.YtdnbpapolckklaaPFnExactUnitTextx6
import Derived.Test.YtdnbpapolckklaaPFnExactUnitTextx11
import Derived.Test.YtdnbpapolckklaaPFnExactUnitTextx13
import Derived.Test.YtdnbpapolckklaaPFnExactUnitTextx14
namespace Go.Proofs.Ytdnbpapolckklaa.PFnExactUnitText
open Go.RowKit Go.Proofs.YtdnbpapolckklaaW.PrintWords Go.Proofs.YtdnbpapolckklaaW.PrintLast Go.Proofs.YtdnbpapolckklaaW.PrintMore
attribute [local go_sem] max2_int min2_int max_two min_two max_three min_three max_four min_four   -- for this text's walks alone
attribute [local go_sem] Go.Proofs.Ytdnbpapolckklaa.Pad.isSome_setCell
set_option linter.unusedVariables false
set_option linter.unusedSimpArgs false

/-! ### impl_UnitText: function 56 -/
def impl_UnitText.j0 : Nat → Int → Bool → List Bool → List Bool → List (S105) → List (S59) → Option (ByteArray × Bool)
 | 0, _, _, _, _, _, _ => none
 | k + 1, x1, x17, x371000, x371001, x371002, x371003 => if x17 = true then (some ((⟨#[]⟩ : ByteArray), false)) else (if x1 = 0 then ((impl_BitsText.f k x371000 x371001).bind fun bt373 => (some (bt373.1, bt373.2))) else (if x1 ≥ 5 then (if 0 ≤ (wrap64 (x1 - 5)) then (if (wrap64 (x1 - 5)) < (x371003.length : Int) then ((impl_BlockText.f k ((rd_T59 x371003 (wrap64 (x1 - 5))).f0) ((rd_T59 x371003 (wrap64 (x1 - 5))).f1) ((rd_T59 x371003 (wrap64 (x1 - 5))).f2)).bind fun bt376 => (some (bt376.1, bt376.2))) else (none)) else (none)) else (if 0 ≤ (wrap64 ((wrap64 (2 * x1)) - 2)) then (if (wrap64 ((wrap64 (2 * x1)) - 2)) < (x371002.length : Int) then ((impl_InodeText.f k ((rd_T105 x371002 (wrap64 ((wrap64 (2 * x1)) - 2))).f0) ((rd_T105 x371002 (wrap64 ((wrap64 (2 * x1)) - 2))).f1) ((rd_T105 x371002 (wrap64 ((wrap64 (2 * x1)) - 2))).f2)).bind fun bt379 => (if 0 ≤ (wrap64 ((wrap64 (2 * x1)) - 1)) then (if (wrap64 ((wrap64 (2 * x1)) - 1)) < (x371002.length : Int) then ((impl_InodeText.f k ((rd_T105 x371002 (wrap64 ((wrap64 (2 * x1)) - 1))).f0) ((rd_T105 x371002 (wrap64 ((wrap64 (2 * x1)) - 1))).f1) ((rd_T105 x371002 (wrap64 ((wrap64 (2 * x1)) - 1))).f2)).bind fun bt382 => (if bt379.1.size + bt382.1.size ≤ 9223372036854775807 then (some (bt379.1 ++ bt382.1, true)) else (none))) else (none)) else (none))) else (none)) else (none))))
def impl_UnitText.f (k : Nat) (l0_0 : List Bool) (l0_1 : List Bool) (l0_2 : List (S105)) (l0_3 : List (S59)) (a1 : Int) : Option (ByteArray × Bool) := (impl_DiskOk.f k l0_0 l0_1 l0_2 l0_3).bind fun t371 => (if t371 = true then ((impl_isUnit.f a1).bind fun t372 => (impl_UnitText.j0 k a1 (!t372) l0_0 l0_1 l0_2 l0_3)) else (impl_UnitText.j0 k a1 true l0_0 l0_1 l0_2 l0_3))
theorem impl_UnitText.mono_l : ∀ k, (∀ y0 y1 y2 y3 y4 y5, LeO (impl_UnitText.j0 k y0 y1 y2 y3 y4 y5) (impl_UnitText.j0 (k + 1) y0 y1 y2 y3 y4 y5))
 | 0 => fun _ _ _ _ _ _ r h => by simp [impl_UnitText.j0] at h
 | k + 1 => by
  have ih0 := impl_UnitText.mono_l k
  ·intro y0 y1 y2 y3 y4 y5
   unfold impl_UnitText.j0
   repeat' first
   | (with_reducible exact ih0 _ _ _ _ _ _)
   | (with_reducible exact impl_BitsText.mono _ _ _)
   | (with_reducible exact impl_BlockText.mono _ _ _ _)
   | (with_reducible exact impl_DiskOk.mono _ _ _ _ _)
   | (with_reducible exact impl_InodeText.mono _ _ _ _)
   | with_reducible first | exact LeO.refl _ | exact LeO.none _ | refine LeO.ite ?_ ?_ | refine LeO.bind ?_ (fun _ => ?_)
   | exact ih0 _ _ _ _ _ _
   | exact impl_BitsText.mono _ _ _
   | exact impl_BlockText.mono _ _ _ _
   | exact impl_DiskOk.mono _ _ _ _ _
   | exact impl_InodeText.mono _ _ _ _
   | exact LeO.none _
   | refine LeO.ite ?_ ?_
   | refine LeO.bind ?_ (fun _ => ?_)
theorem impl_UnitText.mono : ∀ a0 a1 a2 a3 a4 k, LeO (impl_UnitText.f k a0 a1 a2 a3 a4) (impl_UnitText.f (k + 1) a0 a1 a2 a3 a4) := by
 intro a0 a1 a2 a3 a4 k
 have ih0 := impl_UnitText.mono_l k
 unfold impl_UnitText.f
 repeat' first
   | (with_reducible exact ih0 _ _ _ _ _ _)
   | (with_reducible exact impl_BitsText.mono _ _ _)
   | (with_reducible exact impl_BlockText.mono _ _ _ _)
   | (with_reducible exact impl_DiskOk.mono _ _ _ _ _)
   | (with_reducible exact impl_InodeText.mono _ _ _ _)
   | with_reducible first | exact LeO.refl _ | exact LeO.none _ | refine LeO.ite ?_ ?_ | refine LeO.bind ?_ (fun _ => ?_)
   | exact ih0 _ _ _ _ _ _
   | exact impl_BitsText.mono _ _ _
   | exact impl_BlockText.mono _ _ _ _
   | exact impl_DiskOk.mono _ _ _ _ _
   | exact impl_InodeText.mono _ _ _ _
   | exact LeO.none _
   | refine LeO.ite ?_ ?_
   | refine LeO.bind ?_ (fun _ => ?_)
set_option maxHeartbeats 8000000 in
set_option maxRecDepth 100000 in
theorem impl_UnitText.calls (k : Nat) (A0_0 : Option Addr) (c0_0 : Nat) (l0_0 : List Bool) (A0_1 : Option Addr) (c0_1 : Nat) (l0_1 : List Bool) (A0_2 : Option Addr) (c0_2 : Nat) (l0_2 : List (S105)) (A0_3 : Option Addr) (c0_3 : Nat) (l0_3 : List (S59)) (a1 : Int) (r1 : ByteArray) (r2 : Bool) (w : World) (hr0_0 : Kd.C Kd.bool w A0_0 l0_0.length l0_0) (hc0_0 : l0_0.length ≤ c0_0) (hr0_1 : Kd.C Kd.bool w A0_1 l0_1.length l0_1) (hc0_1 : l0_1.length ≤ c0_1) (hr0_2 : Kd.C k105 w A0_2 l0_2.length l0_2) (hc0_2 : l0_2.length ≤ c0_2) (hr0_3 : Kd.C k59 w A0_3 l0_3.length l0_3) (hc0_3 : l0_3.length ≤ c0_3) (h : impl_UnitText.f k l0_0 l0_1 l0_2 l0_3 a1 = some (r1, r2)) :
  Calls Try.prog 56 #[.agg #[.slice A0_0 l0_0.length c0_0, .slice A0_1 l0_1.length c0_1, .slice A0_2 l0_2.length c0_2, .slice A0_3 l0_3.length c0_3], .int .i64 a1] w fun e w' => e = .returned (.tuple #[.string r1, .bool r2]) ∧ Below w.heap.size w w' := by
 have hu39 := Try.underlying39
 have hu35 := Try.underlying35
 have hu59 := Try.underlying59
 have hu105 := Try.underlying105
 have HR0_0 := Aside0.mk hr0_0
 have HC0_0 := Aside0.mk hc0_0
 clear hr0_0 hc0_0
 have HR0_1 := Aside0.mk hr0_1
 have HC0_1 := Aside0.mk hc0_1
 clear hr0_1 hc0_1
 have HR0_2 := Aside0.mk hr0_2
 have HC0_2 := Aside0.mk hc0_2
 clear hr0_2 hc0_2
 have HR0_3 := Aside0.mk hr0_3
 have HC0_3 := Aside0.mk hc0_3
 clear hr0_3 hc0_3
 have HB := Aside0.mk (Below.refl w.heap.size w)
 have H : ((impl_DiskOk.f k l0_0 l0_1 l0_2 l0_3).bind fun t371 => (if t371 = true then ((impl_isUnit.f a1).bind fun t372 => (impl_UnitText.j0 k a1 (!t372) l0_0 l0_1 l0_2 l0_3)) else (impl_UnitText.j0 k a1 true l0_0 l0_1 l0_2 l0_3))) = some (r1, r2) := h
 clear h
 have HC3 := Aside0.mk H
 clear H
 go_enter Try.func56, Try.ntmps56
 go_upto_region 1 with (first | ((with_reducible refine gate_dst (N := 2) rfl ?_); refine box_event ?hg (N := 2) ?hd (cs := #[.slice A0_0 l0_0.length c0_0, .slice A0_1 l0_1.length c0_1, .slice A0_2 l0_2.length c0_2, .slice A0_3 l0_3.length c0_3]) (t := 39) ?hr ?_; (case hd => rfl); (case hg => rfl); (case hr => first | (go_simp; done) | (go_simp; rfl)); intro gb370 hg w4 hbox hb; have n0_ := Aside0.mk (below_step (qb HB.out) hb); have n1_ := Aside0.mk (hbox); have n2_ := Aside0.mk ((by rw [hg]; exact (below_size (qb HB.out)) : w.heap.size ≤ gb370)); have n3_ := Aside0.mk ((by rw [hg]; exact (below_size (qb HB.out)) : w.heap.size ≤ gb370)); clear HB; have HB := n0_; have BK370 := n1_; have GW370 := n2_; have GE370 := n3_; clear n0_ n1_ n2_ n3_; clear hb hbox hg))
 (try simp only [Act.put, List.setIfInBounds_toArray, List.set_cons_zero, List.set_cons_succ])
 go_cut [17] (fun v17 wc => ∃ (kq : Nat) (x17_2 : Bool), v17 = .bool x17_2 ∧ Aside0 (impl_UnitText.j0 kq a1 x17_2 l0_0 l0_1 l0_2 l0_3 = some (r1, r2)) ∧ Aside0 (kq ≤ k) ∧ Aside0 (wc.heap[gb370]? = some (.cells #[(.slice A0_0 l0_0.length c0_0), (.slice A0_1 l0_1.length c0_1), (.slice A0_2 l0_2.length c0_2), (.slice A0_3 l0_3.length c0_3)] 39 (0, 0))) ∧ Aside0 (Below w.heap.size w wc))
 case first =>
  have H := HC3.out
  clear HC3
  replace H := Option.bind_eq_some_iff.mp H
  obtain ⟨t371, A50, H⟩ := H
  replace H : (if t371 = true then ((impl_isUnit.f a1).bind fun t372 => (impl_UnitText.j0 k a1 (!t372) l0_0 l0_1 l0_2 l0_3)) else (impl_UnitText.j0 k a1 true l0_0 l0_1 l0_2 l0_3)) = some (r1, r2) := H
  have A5 := Aside0.mk A50
  clear A50
  by_cases c6 : t371 = true
  ·subst c6
   have H1 : ((impl_isUnit.f a1).bind fun t372 => (impl_UnitText.j0 k a1 (!t372) l0_0 l0_1 l0_2 l0_3)) = some (r1, r2) := by rw [if_pos rfl] at H; exact H
   clear H
   have H := H1
   clear H1
   replace H := Option.bind_eq_some_iff.mp H
   obtain ⟨t372, A70, H⟩ := H
   replace H : (impl_UnitText.j0 k a1 (!t372) l0_0 l0_1 l0_2 l0_3) = some (r1, r2) := H
   have A7 := Aside0.mk A70
   clear A70
   have H' := Aside0.mk H
   clear H
   have hcz8_0 : w4.cell? ⟨gb370, 0, none⟩ = some (.slice A0_0 l0_0.length c0_0) := (blk_cell BK370.out 0).trans rfl
   have hcz8_1 : w4.cell? ⟨gb370, 1, none⟩ = some (.slice A0_1 l0_1.length c0_1) := (blk_cell BK370.out 1).trans rfl
   have hcz8_2 : w4.cell? ⟨gb370, 2, none⟩ = some (.slice A0_2 l0_2.length c0_2) := (blk_cell BK370.out 2).trans rfl
   have hcz8_3 : w4.cell? ⟨gb370, 3, none⟩ = some (.slice A0_3 l0_3.length c0_3) := (blk_cell BK370.out 3).trans rfl
   have hfz8_0 := blk_frozen BK370.out 0
   have hfz8_1 := blk_frozen BK370.out 1
   have hfz8_2 := blk_frozen BK370.out 2
   have hfz8_3 := blk_frozen BK370.out 3
   go_wp2_with (first | ((with_reducible refine gate_callee (f := 54) rfl ?_); refine goesL_ (some 11) rfl rfl Try.func54 (by kernel_rfl) rfl #[.agg #[.slice A0_0 l0_0.length c0_0, .slice A0_1 l0_1.length c0_1, .slice A0_2 l0_2.length c0_2, .slice A0_3 l0_3.length c0_3]] rfl qm ?_; (with_reducible refine (impl_DiskOk.calls k _ _ l0_0 _ _ l0_1 _ _ l0_2 _ _ l0_3 true _ ?side1 ?side2 ?side3 ?side4 ?side5 ?side6 ?side7 ?side8 A5.out).mono ?_); (case side1 => repeat (first | exact (Kd.C_below HR0_0.out HB.out) | (with_reducible refine Kd.C_alloc ?_ _) | (with_reducible refine Kd.C_drewN ?_ _) | (with_reducible refine Kd.C_drew ?_))); (case side2 => exact HC0_0.out); (case side3 => repeat (first | exact (Kd.C_below HR0_1.out HB.out) | (with_reducible refine Kd.C_alloc ?_ _) | (with_reducible refine Kd.C_drewN ?_ _) | (with_reducible refine Kd.C_drew ?_))); (case side4 => exact HC0_1.out); (case side5 => repeat (first | exact (Kd.C_below HR0_2.out HB.out) | (with_reducible refine Kd.C_alloc ?_ _) | (with_reducible refine Kd.C_drewN ?_ _) | (with_reducible refine Kd.C_drew ?_))); (case side6 => exact HC0_2.out); (case side7 => repeat (first | exact (Kd.C_below HR0_3.out HB.out) | (with_reducible refine Kd.C_alloc ?_ _) | (with_reducible refine Kd.C_drewN ?_ _) | (with_reducible refine Kd.C_drew ?_))); (case side8 => exact HC0_3.out); rintro e w9 ⟨rfl, hb⟩; refine ⟨_, rfl, ?_⟩; have n0_ := Aside0.mk (blk_below (g := gb370) (o := .cells #[.slice A0_0 l0_0.length c0_0, .slice A0_1 l0_1.length c0_1, .slice A0_2 l0_2.length c0_2, .slice A0_3 l0_3.length c0_3] 39 (0, 0)) (qk BK370.out) hb); have n1_ := Aside0.mk (below_step (qb1 HB.out GE370.out) hb); clear BK370; clear HB; have BK370 := n0_; have HB := n1_; clear n0_ n1_; (try clear hb); (try clear hb2); (try clear hk); (try clear hi)) | (go_at_call 121; (with_reducible refine (impl_isUnit.calls a1 t372 _ A7.out).mono ?_); rintro e w' ⟨rfl, ⟨nd, rfl⟩⟩))
   go_meet
   case rel => exact ⟨_, (!t372), qz, H', ⟨by first | omega | exact Nat.le_refl _⟩, ⟨qk BK370.out⟩, ⟨qb1 HB.out GE370.out⟩⟩
  ·replace c6 := Bool.eq_false_iff.mpr c6
   subst c6
   have H1 : (impl_UnitText.j0 k a1 true l0_0 l0_1 l0_2 l0_3) = some (r1, r2) := by rw [if_neg (show ¬ (false = true) by decide)] at H; exact H
   clear H
   have H := H1
   clear H1
   have H' := Aside0.mk H
   clear H
   have hcz10_0 : w4.cell? ⟨gb370, 0, none⟩ = some (.slice A0_0 l0_0.length c0_0) := (blk_cell BK370.out 0).trans rfl
   have hcz10_1 : w4.cell? ⟨gb370, 1, none⟩ = some (.slice A0_1 l0_1.length c0_1) := (blk_cell BK370.out 1).trans rfl
   have hcz10_2 : w4.cell? ⟨gb370, 2, none⟩ = some (.slice A0_2 l0_2.length c0_2) := (blk_cell BK370.out 2).trans rfl
   have hcz10_3 : w4.cell? ⟨gb370, 3, none⟩ = some (.slice A0_3 l0_3.length c0_3) := (blk_cell BK370.out 3).trans rfl
   have hfz10_0 := blk_frozen BK370.out 0
   have hfz10_1 := blk_frozen BK370.out 1
   have hfz10_2 := blk_frozen BK370.out 2
   have hfz10_3 := blk_frozen BK370.out 3
   go_wp2_with (first | ((with_reducible refine gate_callee (f := 54) rfl ?_); refine goesL_ (some 11) rfl rfl Try.func54 (by kernel_rfl) rfl #[.agg #[.slice A0_0 l0_0.length c0_0, .slice A0_1 l0_1.length c0_1, .slice A0_2 l0_2.length c0_2, .slice A0_3 l0_3.length c0_3]] rfl qm ?_; (with_reducible refine (impl_DiskOk.calls k _ _ l0_0 _ _ l0_1 _ _ l0_2 _ _ l0_3 false _ ?side1 ?side2 ?side3 ?side4 ?side5 ?side6 ?side7 ?side8 A5.out).mono ?_); (case side1 => repeat (first | exact (Kd.C_below HR0_0.out HB.out) | (with_reducible refine Kd.C_alloc ?_ _) | (with_reducible refine Kd.C_drewN ?_ _) | (with_reducible refine Kd.C_drew ?_))); (case side2 => exact HC0_0.out); (case side3 => repeat (first | exact (Kd.C_below HR0_1.out HB.out) | (with_reducible refine Kd.C_alloc ?_ _) | (with_reducible refine Kd.C_drewN ?_ _) | (with_reducible refine Kd.C_drew ?_))); (case side4 => exact HC0_1.out); (case side5 => repeat (first | exact (Kd.C_below HR0_2.out HB.out) | (with_reducible refine Kd.C_alloc ?_ _) | (with_reducible refine Kd.C_drewN ?_ _) | (with_reducible refine Kd.C_drew ?_))); (case side6 => exact HC0_2.out); (case side7 => repeat (first | exact (Kd.C_below HR0_3.out HB.out) | (with_reducible refine Kd.C_alloc ?_ _) | (with_reducible refine Kd.C_drewN ?_ _) | (with_reducible refine Kd.C_drew ?_))); (case side8 => exact HC0_3.out); rintro e w11 ⟨rfl, hb⟩; refine ⟨_, rfl, ?_⟩; have n0_ := Aside0.mk (blk_below (g := gb370) (o := .cells #[.slice A0_0 l0_0.length c0_0, .slice A0_1 l0_1.length c0_1, .slice A0_2 l0_2.length c0_2, .slice A0_3 l0_3.length c0_3] 39 (0, 0)) (qk BK370.out) hb); have n1_ := Aside0.mk (below_step (qb1 HB.out GE370.out) hb); clear BK370; clear HB; have BK370 := n0_; have HB := n1_; clear n0_ n1_; (try clear hb); (try clear hb2); (try clear hk); (try clear hi)))
   go_meet
   case rel => exact ⟨_, (true), qz, H', ⟨by first | omega | exact Nat.le_refl _⟩, ⟨qk BK370.out⟩, ⟨qb1 HB.out GE370.out⟩⟩
 case rest =>
  clear HC3
  try clear p2
  try clear c5
  try clear c6
  try clear hcz10_0
  try clear hcz10_1
  try clear hcz10_2
  try clear hcz10_3
  try clear hcz8_0
  try clear hcz8_1
  try clear hcz8_2
  try clear hcz8_3
  try clear hfz10_0
  try clear hfz10_1
  try clear hfz10_2
  try clear hfz10_3
  try clear hfz8_0
  try clear hfz8_1
  try clear hfz8_2
  try clear hfz8_3
  obtain ⟨kq, x17_2, rfl, HA, HJ2, BK370, HB⟩ := hcut
  cases kq with
  | zero => exact absurd HA.out (by simp [impl_UnitText.j0])
  | succ kj2 =>
   have H := HA.out
   clear HA
   simp only [impl_UnitText.j0] at H
   by_cases c12 : x17_2 = true
   ·subst c12
    have H1 : (some ((⟨#[]⟩ : ByteArray), false)) = some (r1, r2) := by rw [if_pos rfl] at H; exact H
    clear H
    have H := H1
    clear H1
    simp only [Option.some.injEq, Prod.mk.injEq] at H
    obtain ⟨rfl, rfl⟩ := H
    go_wp2
    go_ret2
    exact ⟨qe, qb1 HB.out GE370.out⟩
   ·replace c12 := Bool.eq_false_iff.mpr c12
    subst c12
    have H1 : (if a1 = 0 then ((impl_BitsText.f kj2 l0_0 l0_1).bind fun bt373 => (some (bt373.1, bt373.2))) else (if a1 ≥ 5 then (if 0 ≤ (wrap64 (a1 - 5)) then (if (wrap64 (a1 - 5)) < (l0_3.length : Int) then ((impl_BlockText.f kj2 ((rd_T59 l0_3 (wrap64 (a1 - 5))).f0) ((rd_T59 l0_3 (wrap64 (a1 - 5))).f1) ((rd_T59 l0_3 (wrap64 (a1 - 5))).f2)).bind fun bt376 => (some (bt376.1, bt376.2))) else (none)) else (none)) else (if 0 ≤ (wrap64 ((wrap64 (2 * a1)) - 2)) then (if (wrap64 ((wrap64 (2 * a1)) - 2)) < (l0_2.length : Int) then ((impl_InodeText.f kj2 ((rd_T105 l0_2 (wrap64 ((wrap64 (2 * a1)) - 2))).f0) ((rd_T105 l0_2 (wrap64 ((wrap64 (2 * a1)) - 2))).f1) ((rd_T105 l0_2 (wrap64 ((wrap64 (2 * a1)) - 2))).f2)).bind fun bt379 => (if 0 ≤ (wrap64 ((wrap64 (2 * a1)) - 1)) then (if (wrap64 ((wrap64 (2 * a1)) - 1)) < (l0_2.length : Int) then ((impl_InodeText.f kj2 ((rd_T105 l0_2 (wrap64 ((wrap64 (2 * a1)) - 1))).f0) ((rd_T105 l0_2 (wrap64 ((wrap64 (2 * a1)) - 1))).f1) ((rd_T105 l0_2 (wrap64 ((wrap64 (2 * a1)) - 1))).f2)).bind fun bt382 => (if bt379.1.size + bt382.1.size ≤ 9223372036854775807 then (some (bt379.1 ++ bt382.1, true)) else (none))) else (none)) else (none))) else (none)) else (none)))) = some (r1, r2) := by rw [if_neg (show ¬ (false = true) by decide)] at H; exact H
    clear H
    have H := H1
    clear H1
    by_cases c13 : a1 = 0
    ·rw [if_pos c13] at H
     have c13b0 : (a1 == 0) = true := beq_iff_eq.mpr c13
     have c13b1 : (a1 != 0) = false := bne_eq_false_iff_eq.mpr c13
     clear c13
     replace H := Option.bind_eq_some_iff.mp H
     obtain ⟨⟨t373, t374⟩, A140, H⟩ := H
     replace H : (some (t373, t374)) = some (r1, r2) := H
     have A14 := Aside0.mk A140
     clear A140
     simp only [Option.some.injEq, Prod.mk.injEq] at H
     obtain ⟨rfl, rfl⟩ := H
     have hcz15_0 : wc.cell? ⟨gb370, 0, none⟩ = some (.slice A0_0 l0_0.length c0_0) := (blk_cell BK370.out 0).trans rfl
     have hcz15_1 : wc.cell? ⟨gb370, 1, none⟩ = some (.slice A0_1 l0_1.length c0_1) := (blk_cell BK370.out 1).trans rfl
     have hcz15_2 : wc.cell? ⟨gb370, 2, none⟩ = some (.slice A0_2 l0_2.length c0_2) := (blk_cell BK370.out 2).trans rfl
     have hcz15_3 : wc.cell? ⟨gb370, 3, none⟩ = some (.slice A0_3 l0_3.length c0_3) := (blk_cell BK370.out 3).trans rfl
     have hfz15_0 := blk_frozen BK370.out 0
     have hfz15_1 := blk_frozen BK370.out 1
     have hfz15_2 := blk_frozen BK370.out 2
     have hfz15_3 := blk_frozen BK370.out 3
     go_wp2_with (first | ((with_reducible refine gate_callee (f := 122) rfl ?_); refine goesL_ (some 23) rfl rfl Try.func122 (by kernel_rfl) rfl #[.agg #[.slice A0_0 l0_0.length c0_0, .slice A0_1 l0_1.length c0_1]] rfl qm ?_; (with_reducible refine (impl_BitsText.calls kj2 _ _ l0_0 _ _ l0_1 t373 t374 _ ?side1 ?side2 ?side3 ?side4 A14.out).mono ?_); (case side1 => repeat (first | exact (Kd.C_below HR0_0.out HB.out) | (with_reducible refine Kd.C_alloc ?_ _) | (with_reducible refine Kd.C_drewN ?_ _) | (with_reducible refine Kd.C_drew ?_))); (case side2 => exact HC0_0.out); (case side3 => repeat (first | exact (Kd.C_below HR0_1.out HB.out) | (with_reducible refine Kd.C_alloc ?_ _) | (with_reducible refine Kd.C_drewN ?_ _) | (with_reducible refine Kd.C_drew ?_))); (case side4 => exact HC0_1.out); rintro e w16 ⟨rfl, hb⟩; refine ⟨_, rfl, ?_⟩; have n0_ := Aside0.mk (blk_below (g := gb370) (o := .cells #[.slice A0_0 l0_0.length c0_0, .slice A0_1 l0_1.length c0_1, .slice A0_2 l0_2.length c0_2, .slice A0_3 l0_3.length c0_3] 39 (0, 0)) (qk BK370.out) hb); have n1_ := Aside0.mk (below_step (qb1 HB.out GE370.out) hb); clear BK370; clear HB; have BK370 := n0_; have HB := n1_; clear n0_ n1_; (try clear hb); (try clear hb2); (try clear hk); (try clear hi)))
     go_ret2
     exact ⟨qe, qb1 HB.out GE370.out⟩
    ·rw [if_neg c13] at H
     have c13b0 : (a1 == 0) = false := beq_eq_false_iff_ne.mpr c13
     have c13b1 : (a1 != 0) = true := bne_iff_ne.mpr c13
     by_cases c17 : a1 ≥ 5
     ·rw [if_pos c17] at H
      have c17b0 : decide (5 ≤ a1) = true := decide_eq_true c17
      clear c17
      obtain ⟨ji18, hji18⟩ : ∃ j_ : Int, (wrap64 (a1 - 5)) = j_ := ⟨_, rfl⟩
      replace H : (if 0 ≤ (ji18) then (if (ji18) < (l0_3.length : Int) then ((impl_BlockText.f kj2 ((rd_T59 l0_3 (ji18)).f0) ((rd_T59 l0_3 (ji18)).f1) ((rd_T59 l0_3 (ji18)).f2)).bind fun bt376 => (some (bt376.1, bt376.2))) else (none)) else (none)) = some (r1, r2) := by first | (rw [hji18] at H; exact H) | (simp only [hji18] at H ⊢; exact H)
      have hji18w : (IntKind.i64.wrap (a1 - 5)) = ji18 := (i64_w _).trans hji18
      by_cases c19 : 0 ≤ (ji18)
      ·rw [if_pos c19] at H
       have c19b0 : decide (0 ≤ (ji18)) = true := decide_eq_true c19
       clear c19
       by_cases c20 : (ji18) < (l0_3.length : Int)
       ·rw [if_pos c20] at H
        have c20b0 : decide ((ji18) < (l0_3.length : Int)) = true := decide_eq_true c20
        clear c20
        replace H := Option.bind_eq_some_iff.mp H
        obtain ⟨⟨t376, t377⟩, A210, H⟩ := H
        replace H : (some (t376, t377)) = some (r1, r2) := H
        have A21 := Aside0.mk A210
        clear A210
        simp only [Option.some.injEq, Prod.mk.injEq] at H
        obtain ⟨rfl, rfl⟩ := H
        have hcz22_0 : wc.cell? ⟨gb370, 0, none⟩ = some (.slice A0_0 l0_0.length c0_0) := (blk_cell BK370.out 0).trans rfl
        have hcz22_1 : wc.cell? ⟨gb370, 1, none⟩ = some (.slice A0_1 l0_1.length c0_1) := (blk_cell BK370.out 1).trans rfl
        have hcz22_2 : wc.cell? ⟨gb370, 2, none⟩ = some (.slice A0_2 l0_2.length c0_2) := (blk_cell BK370.out 2).trans rfl
        have hcz22_3 : wc.cell? ⟨gb370, 3, none⟩ = some (.slice A0_3 l0_3.length c0_3) := (blk_cell BK370.out 3).trans rfl
        have hfz22_0 := blk_frozen BK370.out 0
        have hfz22_1 := blk_frozen BK370.out 1
        have hfz22_2 := blk_frozen BK370.out 2
        have hfz22_3 := blk_frozen BK370.out 3
        have p375 : 0 ≤ ((ji18) : Int) := qo
        have q375 : (ji18) < (l0_3.length : Int) := qo
        obtain ⟨ad375, A375_1, c375_1, e375, hx375_0, hx375_1, hx375_2, hl375_1, hi375_1⟩ := at_T59 HR0_3.out (ji18) p375 q375
        cases e375
        replace hx375_0 := qc HB.out hx375_0
        replace hx375_1 := qc HB.out hx375_1
        replace hx375_2 := qc HB.out hx375_2
        have HR375_1 := Aside0.mk hi375_1
        have HC375_1 := Aside0.mk hl375_1
        clear hi375_1 hl375_1
        replace p375 := eq_true p375
        replace q375 := eq_true q375
        go_wp2_with (first | ((with_reducible refine gate_callee (f := 43) rfl ?_); refine goesL_ (some 35) rfl rfl Try.func43 (by kernel_rfl) rfl #[.agg #[.bool ((rd_T59 l0_3 (ji18)).f0), .slice A375_1 ((rd_T59 l0_3 (ji18)).f1).length c375_1, .string ((rd_T59 l0_3 (ji18)).f2)]] rfl (by (try simp only [List.map_toArray, List.map_cons, List.map_nil]); first | done | (simp only [hji18]; rfl) | rfl | (simp only [List.length_drop, List.length_take]; rfl)) ?_; (with_reducible refine (impl_BlockText.calls kj2 ((rd_T59 l0_3 (ji18)).f0) _ _ ((rd_T59 l0_3 (ji18)).f1) ((rd_T59 l0_3 (ji18)).f2) t376 t377 _ ?side1 ?side2 A21.out).mono ?_); (case side1 => repeat (first | exact (Kd.C_below HR375_1.out HB.out) | (with_reducible refine Kd.C_alloc ?_ _) | (with_reducible refine Kd.C_drewN ?_ _) | (with_reducible refine Kd.C_drew ?_))); (case side2 => exact HC375_1.out); rintro e w23 ⟨rfl, hb⟩; refine ⟨_, rfl, ?_⟩; have n0_ := Aside0.mk (blk_below (g := gb370) (o := .cells #[.slice A0_0 l0_0.length c0_0, .slice A0_1 l0_1.length c0_1, .slice A0_2 l0_2.length c0_2, .slice (some ad375) l0_3.length c0_3] 39 (0, 0)) (qk BK370.out) hb); have n1_ := Aside0.mk (below_step (qb1 HB.out GE370.out) hb); clear BK370; clear HB; have BK370 := n0_; have HB := n1_; clear n0_ n1_; (try clear hb); (try clear hb2); (try clear hk); (try clear hi)))
        go_ret2
        exact ⟨by first | rfl | (simp [errW_none, errW_some] <;> rfl) | (simp only [← hji18]; first | rfl | (simp [errW_none, errW_some] <;> rfl)) | (simp [*, errW_none, errW_some] <;> rfl), qb1 HB.out GE370.out⟩
       ·rw [if_neg c20] at H
        exact absurd H (by simp)
      ·rw [if_neg c19] at H
       exact absurd H (by simp)
     ·rw [if_neg c17] at H
      have c17b0 : decide (5 ≤ a1) = false := decide_eq_false c17
      clear c17
      obtain ⟨ji24, hji24⟩ : ∃ j_ : Int, (wrap64 ((wrap64 (2 * a1)) - 2)) = j_ := ⟨_, rfl⟩
      replace H : (if 0 ≤ (ji24) then (if (ji24) < (l0_2.length : Int) then ((impl_InodeText.f kj2 ((rd_T105 l0_2 (ji24)).f0) ((rd_T105 l0_2 (ji24)).f1) ((rd_T105 l0_2 (ji24)).f2)).bind fun bt379 => (if 0 ≤ (wrap64 ((wrap64 (2 * a1)) - 1)) then (if (wrap64 ((wrap64 (2 * a1)) - 1)) < (l0_2.length : Int) then ((impl_InodeText.f kj2 ((rd_T105 l0_2 (wrap64 ((wrap64 (2 * a1)) - 1))).f0) ((rd_T105 l0_2 (wrap64 ((wrap64 (2 * a1)) - 1))).f1) ((rd_T105 l0_2 (wrap64 ((wrap64 (2 * a1)) - 1))).f2)).bind fun bt382 => (if bt379.1.size + bt382.1.size ≤ 9223372036854775807 then (some (bt379.1 ++ bt382.1, true)) else (none))) else (none)) else (none))) else (none)) else (none)) = some (r1, r2) := by first | (rw [hji24] at H; exact H) | (simp only [hji24] at H ⊢; exact H)
      have hji24w : (IntKind.i64.wrap ((wrap64 (2 * a1)) - 2)) = ji24 := (i64_w _).trans hji24
      by_cases c25 : 0 ≤ (ji24)
      ·rw [if_pos c25] at H
       have c25b0 : decide (0 ≤ (ji24)) = true := decide_eq_true c25
       clear c25
       by_cases c26 : (ji24) < (l0_2.length : Int)
       ·rw [if_pos c26] at H
        have c26b0 : decide ((ji24) < (l0_2.length : Int)) = true := decide_eq_true c26
        clear c26
        replace H := Option.bind_eq_some_iff.mp H
        obtain ⟨⟨t379, t380⟩, A270, H⟩ := H
        replace H : (if 0 ≤ (wrap64 ((wrap64 (2 * a1)) - 1)) then (if (wrap64 ((wrap64 (2 * a1)) - 1)) < (l0_2.length : Int) then ((impl_InodeText.f kj2 ((rd_T105 l0_2 (wrap64 ((wrap64 (2 * a1)) - 1))).f0) ((rd_T105 l0_2 (wrap64 ((wrap64 (2 * a1)) - 1))).f1) ((rd_T105 l0_2 (wrap64 ((wrap64 (2 * a1)) - 1))).f2)).bind fun bt382 => (if t379.size + bt382.1.size ≤ 9223372036854775807 then (some (t379 ++ bt382.1, true)) else (none))) else (none)) else (none)) = some (r1, r2) := H
        have A27 := Aside0.mk A270
        clear A270
        obtain ⟨ji28, hji28⟩ : ∃ j_ : Int, (wrap64 ((wrap64 (2 * a1)) - 1)) = j_ := ⟨_, rfl⟩
        replace H : (if 0 ≤ (ji28) then (if (ji28) < (l0_2.length : Int) then ((impl_InodeText.f kj2 ((rd_T105 l0_2 (ji28)).f0) ((rd_T105 l0_2 (ji28)).f1) ((rd_T105 l0_2 (ji28)).f2)).bind fun bt382 => (if t379.size + bt382.1.size ≤ 9223372036854775807 then (some (t379 ++ bt382.1, true)) else (none))) else (none)) else (none)) = some (r1, r2) := by first | (rw [hji28] at H; exact H) | (simp only [hji28] at H ⊢; exact H)
        (try rw [hji28] at A27)
        have hji28w : (IntKind.i64.wrap ((wrap64 (2 * a1)) - 1)) = ji28 := (i64_w _).trans hji28
        by_cases c29 : 0 ≤ (ji28)
        ·rw [if_pos c29] at H
         have c29b0 : decide (0 ≤ (ji28)) = true := decide_eq_true c29
         clear c29
         by_cases c30 : (ji28) < (l0_2.length : Int)
         ·rw [if_pos c30] at H
          have c30b0 : decide ((ji28) < (l0_2.length : Int)) = true := decide_eq_true c30
          clear c30
          replace H := Option.bind_eq_some_iff.mp H
          obtain ⟨⟨t382, t383⟩, A310, H⟩ := H
          replace H : (if t379.size + t382.size ≤ 9223372036854775807 then (some (t379 ++ t382, true)) else (none)) = some (r1, r2) := H
          have A31 := Aside0.mk A310
          clear A310
          by_cases c32 : t379.size + t382.size ≤ 9223372036854775807
          ·rw [if_pos c32] at H
           have c32b0 := eq_true c32
           have c32b1 : decide (t379.size + t382.size ≤ 9223372036854775807) = true := decide_eq_true c32
           try have c32b2 : (9223372036854775807 < t379.size + t382.size) = False := eq_false (Nat.not_lt.2 c32)
           simp only [Option.some.injEq, Prod.mk.injEq] at H
           obtain ⟨rfl, rfl⟩ := H
           have hcz33_0 : wc.cell? ⟨gb370, 0, none⟩ = some (.slice A0_0 l0_0.length c0_0) := (blk_cell BK370.out 0).trans rfl
           have hcz33_1 : wc.cell? ⟨gb370, 1, none⟩ = some (.slice A0_1 l0_1.length c0_1) := (blk_cell BK370.out 1).trans rfl
           have hcz33_2 : wc.cell? ⟨gb370, 2, none⟩ = some (.slice A0_2 l0_2.length c0_2) := (blk_cell BK370.out 2).trans rfl
           have hcz33_3 : wc.cell? ⟨gb370, 3, none⟩ = some (.slice A0_3 l0_3.length c0_3) := (blk_cell BK370.out 3).trans rfl
           have hfz33_0 := blk_frozen BK370.out 0
           have hfz33_1 := blk_frozen BK370.out 1
           have hfz33_2 := blk_frozen BK370.out 2
           have hfz33_3 := blk_frozen BK370.out 3
           have p378 : 0 ≤ ((ji24) : Int) := qo
           have q378 : (ji24) < (l0_2.length : Int) := qo
           obtain ⟨ad378, A378_2, c378_2, e378, hx378_0, hx378_1, hx378_2, hl378_2, hi378_2⟩ := at_T105 HR0_2.out (ji24) p378 q378
           cases e378
           replace hx378_0 := qc HB.out hx378_0
           replace hx378_1 := qc HB.out hx378_1
           replace hx378_2 := qc HB.out hx378_2
           have HR378_2 := Aside0.mk hi378_2
           have HC378_2 := Aside0.mk hl378_2
           clear hi378_2 hl378_2
           replace p378 := eq_true p378
           replace q378 := eq_true q378
           go_wp2_with (first | ((with_reducible refine gate_callee (f := 123) rfl ?_); refine goesL_ (some 46) rfl rfl Try.func123 (by kernel_rfl) rfl #[.agg #[.int .i64 ((rd_T105 l0_2 (ji24)).f0), .int .i64 ((rd_T105 l0_2 (ji24)).f1), .slice A378_2 ((rd_T105 l0_2 (ji24)).f2).length c378_2]] rfl (by (try simp only [List.map_toArray, List.map_cons, List.map_nil]); first | done | (simp only [hji24]; rfl) | rfl | (simp only [List.length_drop, List.length_take]; rfl)) ?_; (with_reducible refine (impl_InodeText.calls kj2 ((rd_T105 l0_2 (ji24)).f0) ((rd_T105 l0_2 (ji24)).f1) _ _ ((rd_T105 l0_2 (ji24)).f2) t379 t380 _ ?side1 ?side2 A27.out).mono ?_); (case side1 => repeat (first | exact (Kd.C_below HR378_2.out HB.out) | (with_reducible refine Kd.C_alloc ?_ _) | (with_reducible refine Kd.C_drewN ?_ _) | (with_reducible refine Kd.C_drew ?_))); (case side2 => exact HC378_2.out); rintro e w34 ⟨rfl, hb⟩; refine ⟨_, rfl, ?_⟩; have n0_ := Aside0.mk (blk_below (g := gb370) (o := .cells #[.slice A0_0 l0_0.length c0_0, .slice A0_1 l0_1.length c0_1, .slice (some ad378) l0_2.length c0_2, .slice A0_3 l0_3.length c0_3] 39 (0, 0)) (qk BK370.out) hb); have n1_ := Aside0.mk (below_step (qb1 HB.out GE370.out) hb); clear BK370; clear HB; have BK370 := n0_; have HB := n1_; clear n0_ n1_; (try clear hb); (try clear hb2); (try clear hk); (try clear hi); have hcz35_0 : w34.cell? ⟨gb370, 0, none⟩ = some (.slice A0_0 l0_0.length c0_0) := (blk_cell BK370.out 0).trans rfl; have hcz35_1 : w34.cell? ⟨gb370, 1, none⟩ = some (.slice A0_1 l0_1.length c0_1) := (blk_cell BK370.out 1).trans rfl; have hcz35_2 : w34.cell? ⟨gb370, 2, none⟩ = some (.slice (some ad378) l0_2.length c0_2) := (blk_cell BK370.out 2).trans rfl; have hcz35_3 : w34.cell? ⟨gb370, 3, none⟩ = some (.slice A0_3 l0_3.length c0_3) := (blk_cell BK370.out 3).trans rfl; have hfz35_0 := blk_frozen BK370.out 0; have hfz35_1 := blk_frozen BK370.out 1; have hfz35_2 := blk_frozen BK370.out 2; have hfz35_3 := blk_frozen BK370.out 3; have p381 : 0 ≤ ((ji28) : Int) := qo; have q381 : (ji28) < (l0_2.length : Int) := qo; obtain ⟨ad381, A381_2, c381_2, e381, hx381_0, hx381_1, hx381_2, hl381_2, hi381_2⟩ := at_T105 HR0_2.out (ji28) p381 q381; obtain rfl : ad378 = ad381 := (by injection e381); replace hx381_0 := qc HB.out hx381_0; replace hx381_1 := qc HB.out hx381_1; replace hx381_2 := qc HB.out hx381_2; have HR381_2 := Aside0.mk hi381_2; have HC381_2 := Aside0.mk hl381_2; clear hi381_2 hl381_2; replace p381 := eq_true p381; replace q381 := eq_true q381) | ((with_reducible refine gate_callee (f := 123) rfl ?_); refine goesL_ (some 57) rfl rfl Try.func123 (by kernel_rfl) rfl #[.agg #[.int .i64 ((rd_T105 l0_2 (ji28)).f0), .int .i64 ((rd_T105 l0_2 (ji28)).f1), .slice A381_2 ((rd_T105 l0_2 (ji28)).f2).length c381_2]] rfl (by (try simp only [List.map_toArray, List.map_cons, List.map_nil]); first | done | (simp only [hji28]; rfl) | rfl | (simp only [List.length_drop, List.length_take]; rfl)) ?_; (with_reducible refine (impl_InodeText.calls kj2 ((rd_T105 l0_2 (ji28)).f0) ((rd_T105 l0_2 (ji28)).f1) _ _ ((rd_T105 l0_2 (ji28)).f2) t382 t383 _ ?side1 ?side2 A31.out).mono ?_); (case side1 => repeat (first | exact (Kd.C_below HR381_2.out HB.out) | (with_reducible refine Kd.C_alloc ?_ _) | (with_reducible refine Kd.C_drewN ?_ _) | (with_reducible refine Kd.C_drew ?_))); (case side2 => exact HC381_2.out); rintro e w36 ⟨rfl, hb⟩; refine ⟨_, rfl, ?_⟩; have n0_ := Aside0.mk (blk_below (g := gb370) (o := .cells #[.slice A0_0 l0_0.length c0_0, .slice A0_1 l0_1.length c0_1, .slice (some ad378) l0_2.length c0_2, .slice A0_3 l0_3.length c0_3] 39 (0, 0)) (qk BK370.out) hb); have n1_ := Aside0.mk (below_step (qb1 HB.out GE370.out) hb); clear BK370; clear HB; have BK370 := n0_; have HB := n1_; clear n0_ n1_; (try clear hb); (try clear hb2); (try clear hk); (try clear hi)))
           go_ret2
           exact ⟨by first | rfl | (simp [errW_none, errW_some] <;> rfl) | (simp only [← hji24, ← hji28]; first | rfl | (simp [errW_none, errW_some] <;> rfl)) | (simp [*, errW_none, errW_some] <;> rfl), qb1 HB.out GE370.out⟩
          ·rw [if_neg c32] at H
           exact absurd H (by simp)
         ·rw [if_neg c30] at H
          exact absurd H (by simp)
        ·rw [if_neg c29] at H
         exact absurd H (by simp)
       ·rw [if_neg c26] at H
        exact absurd H (by simp)
      ·rw [if_neg c25] at H
       exact absurd H (by simp)

/-! ### laws_FnExactUnitText: function 13 -/
def laws_FnExactUnitText.j0 : Nat → Bool → List Bool → List Bool → List (S142) → List (S54) → List Bool → List Bool → List (S105) → List (S59) → Option (Bool)
 | 0, _, _, _, _, _, _, _, _, _ => none
 | k + 1, x38, x385000, x385001, x385002, x385003, x413000, x413001, x413002, x413003 => if x38 = true then (some false) else ((laws_toDisk.f k x385000 x385001 x385002 x385003).bind fun bt415 => ((laws_eqDisk.f k x413000 x413001 x413002 x413003 bt415.1 bt415.2.1 bt415.2.2.1 bt415.2.2.2).bind fun t427 => (if t427 = true then (some true) else (some false))))
def laws_FnExactUnitText.f (k : Nat) (l0_0 : List Bool) (l0_1 : List Bool) (l0_2 : List (S142)) (l0_3 : List (S54)) (a1 : Int) : Option (Bool) := (laws_szDisk.f k l0_0 l0_1 l0_2 l0_3 1048576).bind fun t385 => (if t385 < 0 then (some true) else ((laws_toDisk.f k l0_0 l0_1 l0_2 l0_3).bind fun bt386 => ((spec_UnitText.f k bt386.1 bt386.2.1 bt386.2.2.1 bt386.2.2.2 a1).bind fun bt398 => ((laws_toDisk.f k l0_0 l0_1 l0_2 l0_3).bind fun bt400 => ((impl_UnitText.f k bt400.1 bt400.2.1 bt400.2.2.1 bt400.2.2.2 a1).bind fun bt413 => (if bt413.1.toList = bt398.1.toList then (laws_FnExactUnitText.j0 k (bt413.2 != bt398.2) l0_0 l0_1 l0_2 l0_3 bt400.1 bt400.2.1 bt400.2.2.1 bt400.2.2.2) else (laws_FnExactUnitText.j0 k true l0_0 l0_1 l0_2 l0_3 bt400.1 bt400.2.1 bt400.2.2.1 bt400.2.2.2)))))))
theorem laws_FnExactUnitText.mono_l : ∀ k, (∀ y0 y1 y2 y3 y4 y5 y6 y7 y8, LeO (laws_FnExactUnitText.j0 k y0 y1 y2 y3 y4 y5 y6 y7 y8) (laws_FnExactUnitText.j0 (k + 1) y0 y1 y2 y3 y4 y5 y6 y7 y8))
 | 0 => fun _ _ _ _ _ _ _ _ _ r h => by simp [laws_FnExactUnitText.j0] at h
 | k + 1 => by
  have ih0 := laws_FnExactUnitText.mono_l k
  ·intro y0 y1 y2 y3 y4 y5 y6 y7 y8
   unfold laws_FnExactUnitText.j0
   repeat' first
   | (with_reducible exact ih0 _ _ _ _ _ _ _ _ _)
   | (with_reducible exact impl_UnitText.mono _ _ _ _ _ _)
   | (with_reducible exact laws_eqDisk.mono _ _ _ _ _ _ _ _ _)
   | (with_reducible exact laws_szDisk.mono _ _ _ _ _ _)
   | (with_reducible exact laws_toDisk.mono _ _ _ _ _)
   | (with_reducible exact spec_UnitText.mono _ _ _ _ _ _)
   | with_reducible first | exact LeO.refl _ | exact LeO.none _ | refine LeO.ite ?_ ?_ | refine LeO.bind ?_ (fun _ => ?_)
   | exact ih0 _ _ _ _ _ _ _ _ _
   | exact impl_UnitText.mono _ _ _ _ _ _
   | exact laws_eqDisk.mono _ _ _ _ _ _ _ _ _
   | exact laws_szDisk.mono _ _ _ _ _ _
   | exact laws_toDisk.mono _ _ _ _ _
   | exact spec_UnitText.mono _ _ _ _ _ _
   | exact LeO.none _
   | refine LeO.ite ?_ ?_
   | refine LeO.bind ?_ (fun _ => ?_)
theorem laws_FnExactUnitText.mono : ∀ a0 a1 a2 a3 a4 k, LeO (laws_FnExactUnitText.f k a0 a1 a2 a3 a4) (laws_FnExactUnitText.f (k + 1) a0 a1 a2 a3 a4) := by
 intro a0 a1 a2 a3 a4 k
 have ih0 := laws_FnExactUnitText.mono_l k
 unfold laws_FnExactUnitText.f
 repeat' first
   | (with_reducible exact ih0 _ _ _ _ _ _ _ _ _)
   | (with_reducible exact impl_UnitText.mono _ _ _ _ _ _)
   | (with_reducible exact laws_eqDisk.mono _ _ _ _ _ _ _ _ _)
   | (with_reducible exact laws_szDisk.mono _ _ _ _ _ _)
   | (with_reducible exact laws_toDisk.mono _ _ _ _ _)
   | (with_reducible exact spec_UnitText.mono _ _ _ _ _ _)
   | with_reducible first | exact LeO.refl _ | exact LeO.none _ | refine LeO.ite ?_ ?_ | refine LeO.bind ?_ (fun _ => ?_)
   | exact ih0 _ _ _ _ _ _ _ _ _
   | exact impl_UnitText.mono _ _ _ _ _ _
   | exact laws_eqDisk.mono _ _ _ _ _ _ _ _ _
   | exact laws_szDisk.mono _ _ _ _ _ _
   | exact laws_toDisk.mono _ _ _ _ _
   | exact spec_UnitText.mono _ _ _ _ _ _
   | exact LeO.none _
   | refine LeO.ite ?_ ?_
   | refine LeO.bind ?_ (fun _ => ?_)
set_option maxHeartbeats 8000000 in
set_option maxRecDepth 100000 in
theorem laws_FnExactUnitText.calls (k : Nat) (A0_0 : Option Addr) (c0_0 : Nat) (l0_0 : List Bool) (A0_1 : Option Addr) (c0_1 : Nat) (l0_1 : List Bool) (A0_2 : Option Addr) (c0_2 : Nat) (l0_2 : List (S142)) (A0_3 : Option Addr) (c0_3 : Nat) (l0_3 : List (S54)) (a1 : Int) (r : Bool) (w : World) (hr0_0 : Kd.C Kd.bool w A0_0 l0_0.length l0_0) (hc0_0 : l0_0.length ≤ c0_0) (hr0_1 : Kd.C Kd.bool w A0_1 l0_1.length l0_1) (hc0_1 : l0_1.length ≤ c0_1) (hr0_2 : Kd.C k142 w A0_2 l0_2.length l0_2) (hc0_2 : l0_2.length ≤ c0_2) (hr0_3 : Kd.C k54 w A0_3 l0_3.length l0_3) (hc0_3 : l0_3.length ≤ c0_3) (h : laws_FnExactUnitText.f k l0_0 l0_1 l0_2 l0_3 a1 = some r) (hr_ : Aside0 (r = true)) :
  Calls Try.prog 13 #[.agg #[.slice A0_0 l0_0.length c0_0, .slice A0_1 l0_1.length c0_1, .slice A0_2 l0_2.length c0_2, .slice A0_3 l0_3.length c0_3], .int .i64 a1] w fun e w' => e = .returned (.bool r) ∧ Below w.heap.size w w' := by
 have hu28 := Try.underlying28
 have hu39 := Try.underlying39
 have HR0_0 := Aside0.mk hr0_0
 have HC0_0 := Aside0.mk hc0_0
 clear hr0_0 hc0_0
 have HR0_1 := Aside0.mk hr0_1
 have HC0_1 := Aside0.mk hc0_1
 clear hr0_1 hc0_1
 have HR0_2 := Aside0.mk hr0_2
 have HC0_2 := Aside0.mk hc0_2
 clear hr0_2 hc0_2
 have HR0_3 := Aside0.mk hr0_3
 have HC0_3 := Aside0.mk hc0_3
 clear hr0_3 hc0_3
 have HB := Aside0.mk (Below.refl w.heap.size w)
 have H : ((laws_szDisk.f k l0_0 l0_1 l0_2 l0_3 1048576).bind fun t385 => (if t385 < 0 then (some true) else ((laws_toDisk.f k l0_0 l0_1 l0_2 l0_3).bind fun bt386 => ((spec_UnitText.f k bt386.1 bt386.2.1 bt386.2.2.1 bt386.2.2.2 a1).bind fun bt398 => ((laws_toDisk.f k l0_0 l0_1 l0_2 l0_3).bind fun bt400 => ((impl_UnitText.f k bt400.1 bt400.2.1 bt400.2.2.1 bt400.2.2.2 a1).bind fun bt413 => (if bt413.1.toList = bt398.1.toList then (laws_FnExactUnitText.j0 k (bt413.2 != bt398.2) l0_0 l0_1 l0_2 l0_3 bt400.1 bt400.2.1 bt400.2.2.1 bt400.2.2.2) else (laws_FnExactUnitText.j0 k true l0_0 l0_1 l0_2 l0_3 bt400.1 bt400.2.1 bt400.2.2.1 bt400.2.2.2)))))))) = some r := h
 clear h
 replace H := Option.bind_eq_some_iff.mp H
 obtain ⟨t385, A30, H⟩ := H
 replace H : (if t385 < 0 then (some true) else ((laws_toDisk.f k l0_0 l0_1 l0_2 l0_3).bind fun bt386 => ((spec_UnitText.f k bt386.1 bt386.2.1 bt386.2.2.1 bt386.2.2.2 a1).bind fun bt398 => ((laws_toDisk.f k l0_0 l0_1 l0_2 l0_3).bind fun bt400 => ((impl_UnitText.f k bt400.1 bt400.2.1 bt400.2.2.1 bt400.2.2.2 a1).bind fun bt413 => (if bt413.1.toList = bt398.1.toList then (laws_FnExactUnitText.j0 k (bt413.2 != bt398.2) l0_0 l0_1 l0_2 l0_3 bt400.1 bt400.2.1 bt400.2.2.1 bt400.2.2.2) else (laws_FnExactUnitText.j0 k true l0_0 l0_1 l0_2 l0_3 bt400.1 bt400.2.1 bt400.2.2.1 bt400.2.2.2))))))) = some r := H
 have A3 := Aside0.mk A30
 clear A30
 by_cases c4 : t385 < 0
 ·rw [if_pos c4] at H
  have c4b0 : decide (t385 < 0) = true := decide_eq_true c4
  clear c4
  obtain rfl := Option.some.inj H
  go_enter Try.func13, Try.ntmps13
  go_wp2_with (first | ((with_reducible refine gate_dst (N := 2) rfl ?_); refine box_event ?hg (N := 2) ?hd (cs := #[.slice A0_0 l0_0.length c0_0, .slice A0_1 l0_1.length c0_1, .slice A0_2 l0_2.length c0_2, .slice A0_3 l0_3.length c0_3]) (t := 28) ?hr ?_; (case hd => rfl); (case hg => rfl); (case hr => first | (go_simp; done) | (go_simp; rfl)); intro gb384 hg w5 hbox hb; have n0_ := Aside0.mk (below_step (qb HB.out) hb); have n1_ := Aside0.mk (hbox); have n2_ := Aside0.mk ((by rw [hg]; exact (below_size (qb HB.out)) : w.heap.size ≤ gb384)); have n3_ := Aside0.mk ((by rw [hg]; exact (below_size (qb HB.out)) : w.heap.size ≤ gb384)); clear HB; have HB := n0_; have BK384 := n1_; have GW384 := n2_; have GE384 := n3_; clear n0_ n1_ n2_ n3_; clear hb hbox hg; have hcz6_0 : w5.cell? ⟨gb384, 0, none⟩ = some (.slice A0_0 l0_0.length c0_0) := (blk_cell BK384.out 0).trans rfl; have hcz6_1 : w5.cell? ⟨gb384, 1, none⟩ = some (.slice A0_1 l0_1.length c0_1) := (blk_cell BK384.out 1).trans rfl; have hcz6_2 : w5.cell? ⟨gb384, 2, none⟩ = some (.slice A0_2 l0_2.length c0_2) := (blk_cell BK384.out 2).trans rfl; have hcz6_3 : w5.cell? ⟨gb384, 3, none⟩ = some (.slice A0_3 l0_3.length c0_3) := (blk_cell BK384.out 3).trans rfl; have hfz6_0 := blk_frozen BK384.out 0; have hfz6_1 := blk_frozen BK384.out 1; have hfz6_2 := blk_frozen BK384.out 2; have hfz6_3 := blk_frozen BK384.out 3) | ((with_reducible refine gate_callee (f := 14) rfl ?_); refine goesL_ (some 13) rfl rfl Try.func14 (by kernel_rfl) rfl #[.agg #[.slice A0_0 l0_0.length c0_0, .slice A0_1 l0_1.length c0_1, .slice A0_2 l0_2.length c0_2, .slice A0_3 l0_3.length c0_3], .int .i64 1048576] rfl qm ?_; (with_reducible refine (laws_szDisk.calls k _ _ l0_0 _ _ l0_1 _ _ l0_2 _ _ l0_3 1048576 t385 _ ?side1 ?side2 ?side3 ?side4 ?side5 ?side6 ?side7 ?side8 A3.out).mono ?_); (case side1 => repeat (first | exact (Kd.C_below HR0_0.out HB.out) | (with_reducible refine Kd.C_alloc ?_ _) | (with_reducible refine Kd.C_drewN ?_ _) | (with_reducible refine Kd.C_drew ?_))); (case side2 => exact HC0_0.out); (case side3 => repeat (first | exact (Kd.C_below HR0_1.out HB.out) | (with_reducible refine Kd.C_alloc ?_ _) | (with_reducible refine Kd.C_drewN ?_ _) | (with_reducible refine Kd.C_drew ?_))); (case side4 => exact HC0_1.out); (case side5 => repeat (first | exact (Kd.C_below HR0_2.out HB.out) | (with_reducible refine Kd.C_alloc ?_ _) | (with_reducible refine Kd.C_drewN ?_ _) | (with_reducible refine Kd.C_drew ?_))); (case side6 => exact HC0_2.out); (case side7 => repeat (first | exact (Kd.C_below HR0_3.out HB.out) | (with_reducible refine Kd.C_alloc ?_ _) | (with_reducible refine Kd.C_drewN ?_ _) | (with_reducible refine Kd.C_drew ?_))); (case side8 => exact HC0_3.out); rintro e w7 ⟨rfl, hb⟩; refine ⟨_, rfl, ?_⟩; have n0_ := Aside0.mk (blk_below (g := gb384) (o := .cells #[.slice A0_0 l0_0.length c0_0, .slice A0_1 l0_1.length c0_1, .slice A0_2 l0_2.length c0_2, .slice A0_3 l0_3.length c0_3] 28 (0, 0)) (qk BK384.out) hb); have n1_ := Aside0.mk (below_step (qb1 HB.out GE384.out) hb); clear BK384; clear HB; have BK384 := n0_; have HB := n1_; clear n0_ n1_; (try clear hb); (try clear hb2); (try clear hk); (try clear hi)))
  go_ret
  exact ⟨qe, qb1 HB.out GE384.out⟩
 ·rw [if_neg c4] at H
  have c4b0 : decide (t385 < 0) = false := decide_eq_false c4
  clear c4
  replace H := Option.bind_eq_some_iff.mp H
  obtain ⟨⟨t386, t389, t392, t395⟩, A80, H⟩ := H
  replace H : ((spec_UnitText.f k t386 t389 t392 t395 a1).bind fun bt398 => ((laws_toDisk.f k l0_0 l0_1 l0_2 l0_3).bind fun bt400 => ((impl_UnitText.f k bt400.1 bt400.2.1 bt400.2.2.1 bt400.2.2.2 a1).bind fun bt413 => (if bt413.1.toList = bt398.1.toList then (laws_FnExactUnitText.j0 k (bt413.2 != bt398.2) l0_0 l0_1 l0_2 l0_3 bt400.1 bt400.2.1 bt400.2.2.1 bt400.2.2.2) else (laws_FnExactUnitText.j0 k true l0_0 l0_1 l0_2 l0_3 bt400.1 bt400.2.1 bt400.2.2.1 bt400.2.2.2))))) = some r := H
  have A8 := Aside0.mk A80
  clear A80
  replace H := Option.bind_eq_some_iff.mp H
  obtain ⟨⟨t398, t399⟩, A90, H⟩ := H
  replace H : ((laws_toDisk.f k l0_0 l0_1 l0_2 l0_3).bind fun bt400 => ((impl_UnitText.f k bt400.1 bt400.2.1 bt400.2.2.1 bt400.2.2.2 a1).bind fun bt413 => (if bt413.1.toList = t398.toList then (laws_FnExactUnitText.j0 k (bt413.2 != t399) l0_0 l0_1 l0_2 l0_3 bt400.1 bt400.2.1 bt400.2.2.1 bt400.2.2.2) else (laws_FnExactUnitText.j0 k true l0_0 l0_1 l0_2 l0_3 bt400.1 bt400.2.1 bt400.2.2.1 bt400.2.2.2)))) = some r := H
  have A9 := Aside0.mk A90
  clear A90
  replace H := Option.bind_eq_some_iff.mp H
  obtain ⟨⟨t400, t403, t406, t409⟩, A100, H⟩ := H
  replace H : ((impl_UnitText.f k t400 t403 t406 t409 a1).bind fun bt413 => (if bt413.1.toList = t398.toList then (laws_FnExactUnitText.j0 k (bt413.2 != t399) l0_0 l0_1 l0_2 l0_3 t400 t403 t406 t409) else (laws_FnExactUnitText.j0 k true l0_0 l0_1 l0_2 l0_3 t400 t403 t406 t409))) = some r := H
  have A10 := Aside0.mk A100
  clear A100
  replace H := Option.bind_eq_some_iff.mp H
  obtain ⟨⟨t413, t414⟩, A110, H⟩ := H
  replace H : (if t413.toList = t398.toList then (laws_FnExactUnitText.j0 k (t414 != t399) l0_0 l0_1 l0_2 l0_3 t400 t403 t406 t409) else (laws_FnExactUnitText.j0 k true l0_0 l0_1 l0_2 l0_3 t400 t403 t406 t409)) = some r := H
  have A11 := Aside0.mk A110
  clear A110
  have HC12 := Aside0.mk H
  clear H
  go_enter Try.func13, Try.ntmps13
  go_upto_region 8 with (first | ((with_reducible refine gate_dst (N := 2) rfl ?_); refine box_event ?hg (N := 2) ?hd (cs := #[.slice A0_0 l0_0.length c0_0, .slice A0_1 l0_1.length c0_1, .slice A0_2 l0_2.length c0_2, .slice A0_3 l0_3.length c0_3]) (t := 28) ?hr ?_; (case hd => rfl); (case hg => rfl); (case hr => first | (go_simp; done) | (go_simp; rfl)); intro gb384 hg w13 hbox hb; have n0_ := Aside0.mk (below_step (qb HB.out) hb); have n1_ := Aside0.mk (hbox); have n2_ := Aside0.mk ((by rw [hg]; exact (below_size (qb HB.out)) : w.heap.size ≤ gb384)); have n3_ := Aside0.mk ((by rw [hg]; exact (below_size (qb HB.out)) : w.heap.size ≤ gb384)); clear HB; have HB := n0_; have BK384 := n1_; have GW384 := n2_; have GE384 := n3_; clear n0_ n1_ n2_ n3_; clear hb hbox hg; have hcz14_0 : w13.cell? ⟨gb384, 0, none⟩ = some (.slice A0_0 l0_0.length c0_0) := (blk_cell BK384.out 0).trans rfl; have hcz14_1 : w13.cell? ⟨gb384, 1, none⟩ = some (.slice A0_1 l0_1.length c0_1) := (blk_cell BK384.out 1).trans rfl; have hcz14_2 : w13.cell? ⟨gb384, 2, none⟩ = some (.slice A0_2 l0_2.length c0_2) := (blk_cell BK384.out 2).trans rfl; have hcz14_3 : w13.cell? ⟨gb384, 3, none⟩ = some (.slice A0_3 l0_3.length c0_3) := (blk_cell BK384.out 3).trans rfl; have hfz14_0 := blk_frozen BK384.out 0; have hfz14_1 := blk_frozen BK384.out 1; have hfz14_2 := blk_frozen BK384.out 2; have hfz14_3 := blk_frozen BK384.out 3) | ((with_reducible refine gate_callee (f := 14) rfl ?_); refine goesL_ (some 13) rfl rfl Try.func14 (by kernel_rfl) rfl #[.agg #[.slice A0_0 l0_0.length c0_0, .slice A0_1 l0_1.length c0_1, .slice A0_2 l0_2.length c0_2, .slice A0_3 l0_3.length c0_3], .int .i64 1048576] rfl qm ?_; (with_reducible refine (laws_szDisk.calls k _ _ l0_0 _ _ l0_1 _ _ l0_2 _ _ l0_3 1048576 t385 _ ?side1 ?side2 ?side3 ?side4 ?side5 ?side6 ?side7 ?side8 A3.out).mono ?_); (case side1 => repeat (first | exact (Kd.C_below HR0_0.out HB.out) | (with_reducible refine Kd.C_alloc ?_ _) | (with_reducible refine Kd.C_drewN ?_ _) | (with_reducible refine Kd.C_drew ?_))); (case side2 => exact HC0_0.out); (case side3 => repeat (first | exact (Kd.C_below HR0_1.out HB.out) | (with_reducible refine Kd.C_alloc ?_ _) | (with_reducible refine Kd.C_drewN ?_ _) | (with_reducible refine Kd.C_drew ?_))); (case side4 => exact HC0_1.out); (case side5 => repeat (first | exact (Kd.C_below HR0_2.out HB.out) | (with_reducible refine Kd.C_alloc ?_ _) | (with_reducible refine Kd.C_drewN ?_ _) | (with_reducible refine Kd.C_drew ?_))); (case side6 => exact HC0_2.out); (case side7 => repeat (first | exact (Kd.C_below HR0_3.out HB.out) | (with_reducible refine Kd.C_alloc ?_ _) | (with_reducible refine Kd.C_drewN ?_ _) | (with_reducible refine Kd.C_drew ?_))); (case side8 => exact HC0_3.out); rintro e w15 ⟨rfl, hb⟩; refine ⟨_, rfl, ?_⟩; have n0_ := Aside0.mk (blk_below (g := gb384) (o := .cells #[.slice A0_0 l0_0.length c0_0, .slice A0_1 l0_1.length c0_1, .slice A0_2 l0_2.length c0_2, .slice A0_3 l0_3.length c0_3] 28 (0, 0)) (qk BK384.out) hb); have n1_ := Aside0.mk (below_step (qb1 HB.out GE384.out) hb); clear BK384; clear HB; have BK384 := n0_; have HB := n1_; clear n0_ n1_; (try clear hb); (try clear hb2); (try clear hk); (try clear hi); have hcz16_0 : w15.cell? ⟨gb384, 0, none⟩ = some (.slice A0_0 l0_0.length c0_0) := (blk_cell BK384.out 0).trans rfl; have hcz16_1 : w15.cell? ⟨gb384, 1, none⟩ = some (.slice A0_1 l0_1.length c0_1) := (blk_cell BK384.out 1).trans rfl; have hcz16_2 : w15.cell? ⟨gb384, 2, none⟩ = some (.slice A0_2 l0_2.length c0_2) := (blk_cell BK384.out 2).trans rfl; have hcz16_3 : w15.cell? ⟨gb384, 3, none⟩ = some (.slice A0_3 l0_3.length c0_3) := (blk_cell BK384.out 3).trans rfl; have hfz16_0 := blk_frozen BK384.out 0; have hfz16_1 := blk_frozen BK384.out 1; have hfz16_2 := blk_frozen BK384.out 2; have hfz16_3 := blk_frozen BK384.out 3) | ((with_reducible refine gate_callee (f := 16) rfl ?_); refine goesL_ (some 18) rfl rfl Try.func16 (by kernel_rfl) rfl #[.agg #[.slice A0_0 l0_0.length c0_0, .slice A0_1 l0_1.length c0_1, .slice A0_2 l0_2.length c0_2, .slice A0_3 l0_3.length c0_3]] rfl qm ?_; (with_reducible refine (laws_toDisk.calls k _ _ l0_0 _ _ l0_1 _ _ l0_2 _ _ l0_3 t386 t389 t392 t395 _ ?side1 ?side2 ?side3 ?side4 ?side5 ?side6 ?side7 ?side8 A8.out).mono ?_); (case side1 => repeat (first | exact (Kd.C_below HR0_0.out HB.out) | (with_reducible refine Kd.C_alloc ?_ _) | (with_reducible refine Kd.C_drewN ?_ _) | (with_reducible refine Kd.C_drew ?_))); (case side2 => exact HC0_0.out); (case side3 => repeat (first | exact (Kd.C_below HR0_1.out HB.out) | (with_reducible refine Kd.C_alloc ?_ _) | (with_reducible refine Kd.C_drewN ?_ _) | (with_reducible refine Kd.C_drew ?_))); (case side4 => exact HC0_1.out); (case side5 => repeat (first | exact (Kd.C_below HR0_2.out HB.out) | (with_reducible refine Kd.C_alloc ?_ _) | (with_reducible refine Kd.C_drewN ?_ _) | (with_reducible refine Kd.C_drew ?_))); (case side6 => exact HC0_2.out); (case side7 => repeat (first | exact (Kd.C_below HR0_3.out HB.out) | (with_reducible refine Kd.C_alloc ?_ _) | (with_reducible refine Kd.C_drewN ?_ _) | (with_reducible refine Kd.C_drew ?_))); (case side8 => exact HC0_3.out); rintro e w17 ⟨v387, v390, v393, v396, rfl, ho0, ho1, ho2, ho3, hb⟩; refine ⟨_, rfl, ?_⟩; have n0_ := Aside0.mk (Kd.R_lower ho0 (below_size (qb1 HB.out GE384.out))); have n1_ := Aside0.mk (Kd.R_lower ho1 (below_size (qb1 HB.out GE384.out))); have n2_ := Aside0.mk (Kd.S_lower ho2 (below_size (qb1 HB.out GE384.out))); have n3_ := Aside0.mk (Kd.S_lower ho3 (below_size (qb1 HB.out GE384.out))); have n4_ := Aside0.mk (blk_below (g := gb384) (o := .cells #[.slice A0_0 l0_0.length c0_0, .slice A0_1 l0_1.length c0_1, .slice A0_2 l0_2.length c0_2, .slice A0_3 l0_3.length c0_3] 28 (0, 0)) (qk BK384.out) hb); have n5_ := Aside0.mk (below_step (qb1 HB.out GE384.out) hb); clear BK384; clear HB; have HO388 := n0_; have HO391 := n1_; have HO394 := n2_; have HO397 := n3_; have BK384 := n4_; have HB := n5_; clear n0_ n1_ n2_ n3_ n4_ n5_; (try clear hb); (try clear hb2); (try clear hk); (try clear hi); (try clear ho0); (try clear ho1); (try clear ho2); (try clear ho3); obtain ⟨Ao18, co18, eo18⟩ := Kd.R_slice HO388.out; subst eo18; obtain ⟨Ao19, co19, eo19⟩ := Kd.R_slice HO391.out; subst eo19; obtain ⟨Ao20, co20, eo20⟩ := Kd.S_slice HO394.out; subst eo20; obtain ⟨Ao21, co21, eo21⟩ := Kd.S_slice HO397.out; subst eo21) | ((with_reducible refine gate_callee (f := 55) rfl ?_); refine goesL_ (some 20) rfl rfl Try.func55 (by kernel_rfl) rfl #[.agg #[.slice Ao18 t386.length co18, .slice Ao19 t389.length co19, .slice Ao20 t392.length co20, .slice Ao21 t395.length co21], .int .i64 a1] rfl qm ?_; (with_reducible refine (spec_UnitText.calls k _ _ t386 _ _ t389 _ _ t392 _ _ t395 a1 t398 t399 _ ?side1 ?side2 ?side3 ?side4 ?side5 ?side6 ?side7 ?side8 A9.out).mono ?_); (case side1 => repeat (first | exact (Kd.R_reads' HO388.out).2.2 | (with_reducible refine Kd.C_alloc ?_ _) | (with_reducible refine Kd.C_drewN ?_ _) | (with_reducible refine Kd.C_drew ?_))); (case side2 => exact (Kd.R_reads' HO388.out).2.1); (case side3 => repeat (first | exact (Kd.R_reads' HO391.out).2.2 | (with_reducible refine Kd.C_alloc ?_ _) | (with_reducible refine Kd.C_drewN ?_ _) | (with_reducible refine Kd.C_drew ?_))); (case side4 => exact (Kd.R_reads' HO391.out).2.1); (case side5 => repeat (first | exact (Kd.S_reads' HO394.out).2.2 | (with_reducible refine Kd.C_alloc ?_ _) | (with_reducible refine Kd.C_drewN ?_ _) | (with_reducible refine Kd.C_drew ?_))); (case side6 => exact (Kd.S_reads' HO394.out).2.1); (case side7 => repeat (first | exact (Kd.S_reads' HO397.out).2.2 | (with_reducible refine Kd.C_alloc ?_ _) | (with_reducible refine Kd.C_drewN ?_ _) | (with_reducible refine Kd.C_drew ?_))); (case side8 => exact (Kd.S_reads' HO397.out).2.1); rintro e w22 ⟨rfl, hb⟩; refine ⟨_, rfl, ?_⟩; have n0_ := Aside0.mk (Kd.R_below (qr HO388.out) hb); have n1_ := Aside0.mk (Kd.R_below (qr HO391.out) hb); have n2_ := Aside0.mk (Kd.S_below (qs HO394.out) hb); have n3_ := Aside0.mk (Kd.S_below (qs HO397.out) hb); have n4_ := Aside0.mk (blk_below (g := gb384) (o := .cells #[.slice A0_0 l0_0.length c0_0, .slice A0_1 l0_1.length c0_1, .slice A0_2 l0_2.length c0_2, .slice A0_3 l0_3.length c0_3] 28 (0, 0)) (qk BK384.out) hb); have n5_ := Aside0.mk (below_step (qb1 HB.out GE384.out) hb); clear HO388; clear HO391; clear HO394; clear HO397; clear BK384; clear HB; have HO388 := n0_; have HO391 := n1_; have HO394 := n2_; have HO397 := n3_; have BK384 := n4_; have HB := n5_; clear n0_ n1_ n2_ n3_ n4_ n5_; (try clear hb); (try clear hb2); (try clear hk); (try clear hi); have hcz23_0 : w22.cell? ⟨gb384, 0, none⟩ = some (.slice A0_0 l0_0.length c0_0) := (blk_cell BK384.out 0).trans rfl; have hcz23_1 : w22.cell? ⟨gb384, 1, none⟩ = some (.slice A0_1 l0_1.length c0_1) := (blk_cell BK384.out 1).trans rfl; have hcz23_2 : w22.cell? ⟨gb384, 2, none⟩ = some (.slice A0_2 l0_2.length c0_2) := (blk_cell BK384.out 2).trans rfl; have hcz23_3 : w22.cell? ⟨gb384, 3, none⟩ = some (.slice A0_3 l0_3.length c0_3) := (blk_cell BK384.out 3).trans rfl; have hfz23_0 := blk_frozen BK384.out 0; have hfz23_1 := blk_frozen BK384.out 1; have hfz23_2 := blk_frozen BK384.out 2; have hfz23_3 := blk_frozen BK384.out 3) | ((with_reducible refine gate_callee (f := 16) rfl ?_); refine goesL_ (some 24) rfl rfl Try.func16 (by kernel_rfl) rfl #[.agg #[.slice A0_0 l0_0.length c0_0, .slice A0_1 l0_1.length c0_1, .slice A0_2 l0_2.length c0_2, .slice A0_3 l0_3.length c0_3]] rfl qm ?_; (with_reducible refine (laws_toDisk.calls k _ _ l0_0 _ _ l0_1 _ _ l0_2 _ _ l0_3 t400 t403 t406 t409 _ ?side1 ?side2 ?side3 ?side4 ?side5 ?side6 ?side7 ?side8 A10.out).mono ?_); (case side1 => repeat (first | exact (Kd.C_below HR0_0.out HB.out) | (with_reducible refine Kd.C_alloc ?_ _) | (with_reducible refine Kd.C_drewN ?_ _) | (with_reducible refine Kd.C_drew ?_))); (case side2 => exact HC0_0.out); (case side3 => repeat (first | exact (Kd.C_below HR0_1.out HB.out) | (with_reducible refine Kd.C_alloc ?_ _) | (with_reducible refine Kd.C_drewN ?_ _) | (with_reducible refine Kd.C_drew ?_))); (case side4 => exact HC0_1.out); (case side5 => repeat (first | exact (Kd.C_below HR0_2.out HB.out) | (with_reducible refine Kd.C_alloc ?_ _) | (with_reducible refine Kd.C_drewN ?_ _) | (with_reducible refine Kd.C_drew ?_))); (case side6 => exact HC0_2.out); (case side7 => repeat (first | exact (Kd.C_below HR0_3.out HB.out) | (with_reducible refine Kd.C_alloc ?_ _) | (with_reducible refine Kd.C_drewN ?_ _) | (with_reducible refine Kd.C_drew ?_))); (case side8 => exact HC0_3.out); rintro e w24 ⟨v401, v404, v407, v410, rfl, ho0, ho1, ho2, ho3, hb⟩; refine ⟨_, rfl, ?_⟩; have n0_ := Aside0.mk (Kd.R_mono (Kd.R_told (Kd.R_told (Kd.R_old (qr HO388.out) hb) (Kd.R_base ho0)) (Kd.R_base ho1)) (fun _ h_ => h_.1)); have n1_ := Aside0.mk (Kd.R_mono (Kd.R_told (Kd.R_told (Kd.R_old (qr HO391.out) hb) (Kd.R_base ho0)) (Kd.R_base ho1)) (fun _ h_ => h_.1)); have n2_ := Aside0.mk (Kd.S_elder' (qs HO394.out) (Kd.S_base ho2) hb); have n3_ := Aside0.mk (Kd.S_elder' (qs HO397.out) (Kd.S_base ho3) hb); have n4_ := Aside0.mk (Kd.R_lower (Kd.R_new' (Kd.R_new' ho0 (Kd.R_lt (qr HO388.out))) (Kd.R_lt (qr HO391.out))) (below_size (qb1 HB.out GE384.out))); have n5_ := Aside0.mk (Kd.R_lower (Kd.R_new' (Kd.R_new' ho1 (Kd.R_lt (qr HO388.out))) (Kd.R_lt (qr HO391.out))) (below_size (qb1 HB.out GE384.out))); have n6_ := Aside0.mk (Kd.S_lower (Kd.S_new' ho2 (Kd.S_lt (qs HO394.out))) (below_size (qb1 HB.out GE384.out))); have n7_ := Aside0.mk (Kd.S_lower (Kd.S_new' ho3 (Kd.S_lt (qs HO397.out))) (below_size (qb1 HB.out GE384.out))); have n8_ := Aside0.mk (blk_below (g := gb384) (o := .cells #[.slice A0_0 l0_0.length c0_0, .slice A0_1 l0_1.length c0_1, .slice A0_2 l0_2.length c0_2, .slice A0_3 l0_3.length c0_3] 28 (0, 0)) (qk BK384.out) hb); have n9_ := Aside0.mk (below_step (qb1 HB.out GE384.out) hb); clear HO388; clear HO391; clear HO394; clear HO397; clear BK384; clear HB; have HO388 := n0_; have HO391 := n1_; have HO394 := n2_; have HO397 := n3_; have HO402 := n4_; have HO405 := n5_; have HO408 := n6_; have HO411 := n7_; have BK384 := n8_; have HB := n9_; clear n0_ n1_ n2_ n3_ n4_ n5_ n6_ n7_ n8_ n9_; (try clear hb); (try clear hb2); (try clear hk); (try clear hi); (try clear ho0); (try clear ho1); (try clear ho2); (try clear ho3)) | ((with_reducible refine gate_dst (N := 8) rfl ?_); refine box_event ?hg (N := 8) ?hd (cs := #[.slice none 0 0, .slice none 0 0, .slice none 0 0, .slice none 0 0]) (t := 39) ?hr ?_; (case hd => rfl); (case hg => rfl); (case hr => first | (go_simp; done) | (go_simp; rfl)); intro gb412 hg w25 hbox hb; have n0_ := Aside0.mk (Kd.R_below (qr HO388.out) hb); have n1_ := Aside0.mk (Kd.R_below (qr HO391.out) hb); have n2_ := Aside0.mk (Kd.S_below (qs HO394.out) hb); have n3_ := Aside0.mk (Kd.S_below (qs HO397.out) hb); have n4_ := Aside0.mk (Kd.R_below (qr HO402.out) hb); have n5_ := Aside0.mk (Kd.R_below (qr HO405.out) hb); have n6_ := Aside0.mk (Kd.S_below (qs HO408.out) hb); have n7_ := Aside0.mk (Kd.S_below (qs HO411.out) hb); have n8_ := Aside0.mk (blk_below (g := gb384) (o := .cells #[.slice A0_0 l0_0.length c0_0, .slice A0_1 l0_1.length c0_1, .slice A0_2 l0_2.length c0_2, .slice A0_3 l0_3.length c0_3] 28 (0, 0)) (qk BK384.out) hb); have n9_ := Aside0.mk (below_step (qb1 HB.out GE384.out) hb); have n10_ := Aside0.mk (hbox); have n11_ := Aside0.mk ((by rw [hg]; exact (below_size (qb1 HB.out GE384.out)) : w.heap.size ≤ gb412)); have n12_ := Aside0.mk ((by rw [hg]; exact (below_size (qb1 HB.out GE384.out)) : w.heap.size ≤ gb412)); have n13_ := Aside0.mk ((by rw [hg]; exact Nat.ne_of_lt (blk_lt (g := gb384) (o := .cells #[.slice A0_0 l0_0.length c0_0, .slice A0_1 l0_1.length c0_1, .slice A0_2 l0_2.length c0_2, .slice A0_3 l0_3.length c0_3] 28 (0, 0)) (qk BK384.out)) : gb384 ≠ gb412)); have n14_ := Aside0.mk ((by rw [hg]; exact Nat.ne_of_gt (blk_lt (g := gb384) (o := .cells #[.slice A0_0 l0_0.length c0_0, .slice A0_1 l0_1.length c0_1, .slice A0_2 l0_2.length c0_2, .slice A0_3 l0_3.length c0_3] 28 (0, 0)) (qk BK384.out)) : gb412 ≠ gb384)); clear HO388; clear HO391; clear HO394; clear HO397; clear HO402; clear HO405; clear HO408; clear HO411; clear BK384; clear HB; have HO388 := n0_; have HO391 := n1_; have HO394 := n2_; have HO397 := n3_; have HO402 := n4_; have HO405 := n5_; have HO408 := n6_; have HO411 := n7_; have BK384 := n8_; have HB := n9_; have BK412 := n10_; have GW412 := n11_; have GE412 := n12_; have NB384_412 := n13_; have NB412_384 := n14_; clear n0_ n1_ n2_ n3_ n4_ n5_ n6_ n7_ n8_ n9_ n10_ n11_ n12_ n13_ n14_; clear hb hbox hg; obtain ⟨Ao26, co26, eo26⟩ := Kd.R_slice HO402.out; subst eo26; have hnb27 := NB412_384.out; have hnc27 := NB384_412.out; have hcz28_0 : w25.cell? ⟨gb412, 0, none⟩ = some (.slice none 0 0) := (blk_cell BK412.out 0).trans rfl; have hcz28_1 : w25.cell? ⟨gb412, 1, none⟩ = some (.slice none 0 0) := (blk_cell BK412.out 1).trans rfl; have hcz28_2 : w25.cell? ⟨gb412, 2, none⟩ = some (.slice none 0 0) := (blk_cell BK412.out 2).trans rfl; have hcz28_3 : w25.cell? ⟨gb412, 3, none⟩ = some (.slice none 0 0) := (blk_cell BK412.out 3).trans rfl; have hfz28_0 := blk_frozen BK412.out 0; have hfz28_1 := blk_frozen BK412.out 1; have hfz28_2 := blk_frozen BK412.out 2; have hfz28_3 := blk_frozen BK412.out 3; obtain ⟨Ao29, co29, eo29⟩ := Kd.R_slice HO405.out; subst eo29; obtain ⟨Ao30, co30, eo30⟩ := Kd.S_slice HO408.out; subst eo30; obtain ⟨Ao31, co31, eo31⟩ := Kd.S_slice HO411.out; subst eo31) | ((with_reducible refine gate_callee (f := 56) rfl ?_); refine goesL_ (some 28) rfl rfl Try.func56 (by kernel_rfl) rfl #[.agg #[.slice Ao26 t400.length co26, .slice Ao29 t403.length co29, .slice Ao30 t406.length co30, .slice Ao31 t409.length co31], .int .i64 a1] rfl qm ?_; (with_reducible refine (impl_UnitText.calls k _ _ t400 _ _ t403 _ _ t406 _ _ t409 a1 t413 t414 _ ?side1 ?side2 ?side3 ?side4 ?side5 ?side6 ?side7 ?side8 A11.out).mono ?_); (case side1 => refine (Kd.R_reads' (e := 4) (base := w.heap.size) (ok := fun k_ => ((some k_ ≠ (.slice Ao29 t403.length co29 : Value).ownBlock ∧ some k_ ≠ (.slice Ao18 t386.length co18 : Value).ownBlock) ∧ some k_ ≠ (.slice Ao19 t389.length co19 : Value).ownBlock)) (n := t400.length) (c := co26) ?_).2.2; exact (by refine qR ?_; exact (Kd.R_mono (Kd.R_far (p := ⟨gb412, 3, none⟩) (Kd.R_far (p := ⟨gb412, 2, none⟩) (Kd.R_far (p := ⟨gb412, 1, none⟩) (Kd.R_far (p := ⟨gb412, 0, none⟩) (Kd.R_types HO402.out BK412.out (by decide)) (fun _ hk => hk.2) (.slice Ao26 t400.length co26)) (fun _ hk => hk.2) (.slice Ao29 t403.length co29)) (fun _ hk => hk.2) (.slice Ao30 t406.length co30)) (fun _ hk => hk.2) (.slice Ao31 t409.length co31)) (fun _ h_ => h_.1)))); (case side2 => exact (Kd.R_reads' HO402.out).2.1); (case side3 => refine (Kd.R_reads' (e := 4) (base := w.heap.size) (ok := fun k_ => ((some k_ ≠ (.slice Ao26 t400.length co26 : Value).ownBlock ∧ some k_ ≠ (.slice Ao18 t386.length co18 : Value).ownBlock) ∧ some k_ ≠ (.slice Ao19 t389.length co19 : Value).ownBlock)) (n := t403.length) (c := co29) ?_).2.2; exact (by refine qR ?_; exact (Kd.R_mono (Kd.R_far (p := ⟨gb412, 3, none⟩) (Kd.R_far (p := ⟨gb412, 2, none⟩) (Kd.R_far (p := ⟨gb412, 1, none⟩) (Kd.R_far (p := ⟨gb412, 0, none⟩) (Kd.R_types HO405.out BK412.out (by decide)) (fun _ hk => hk.2) (.slice Ao26 t400.length co26)) (fun _ hk => hk.2) (.slice Ao29 t403.length co29)) (fun _ hk => hk.2) (.slice Ao30 t406.length co30)) (fun _ hk => hk.2) (.slice Ao31 t409.length co31)) (fun _ h_ => h_.1)))); (case side4 => exact (Kd.R_reads' HO405.out).2.1); (case side5 => refine (Kd.S_reads' (e := 105) (base := w.heap.size) (ok := fun k_ => (True ∧ some k_ ≠ (.slice Ao20 t392.length co20 : Value).ownBlock)) (n := t406.length) (c := co30) ?_).2.2; exact (by refine qS ?_; exact (Kd.S_mono (Kd.S_far (p := ⟨gb412, 3, none⟩) (Kd.S_far (p := ⟨gb412, 2, none⟩) (Kd.S_far (p := ⟨gb412, 1, none⟩) (Kd.S_far (p := ⟨gb412, 0, none⟩) (Kd.S_types HO408.out BK412.out (by decide)) (fun _ hk => hk.2) (.slice Ao26 t400.length co26)) (fun _ hk => hk.2) (.slice Ao29 t403.length co29)) (fun _ hk => hk.2) (.slice Ao30 t406.length co30)) (fun _ hk => hk.2) (.slice Ao31 t409.length co31)) (fun _ h_ => h_.1)))); (case side6 => exact (Kd.S_reads' HO408.out).2.1); (case side7 => refine (Kd.S_reads' (e := 59) (base := w.heap.size) (ok := fun k_ => (True ∧ some k_ ≠ (.slice Ao21 t395.length co21 : Value).ownBlock)) (n := t409.length) (c := co31) ?_).2.2; exact (by refine qS ?_; exact (Kd.S_mono (Kd.S_far (p := ⟨gb412, 3, none⟩) (Kd.S_far (p := ⟨gb412, 2, none⟩) (Kd.S_far (p := ⟨gb412, 1, none⟩) (Kd.S_far (p := ⟨gb412, 0, none⟩) (Kd.S_types HO411.out BK412.out (by decide)) (fun _ hk => hk.2) (.slice Ao26 t400.length co26)) (fun _ hk => hk.2) (.slice Ao29 t403.length co29)) (fun _ hk => hk.2) (.slice Ao30 t406.length co30)) (fun _ hk => hk.2) (.slice Ao31 t409.length co31)) (fun _ h_ => h_.1)))); (case side8 => exact (Kd.S_reads' HO411.out).2.1); rintro e w32 ⟨rfl, hb⟩; refine ⟨_, rfl, ?_⟩; have n0_ := Aside0.mk (Kd.R_below (by refine qR ?_; exact (Kd.R_mono (Kd.R_far (p := ⟨gb412, 3, none⟩) (Kd.R_far (p := ⟨gb412, 2, none⟩) (Kd.R_far (p := ⟨gb412, 1, none⟩) (Kd.R_far (p := ⟨gb412, 0, none⟩) (Kd.R_types HO388.out BK412.out (by decide)) (fun _ hk => hk.2) (.slice Ao26 t400.length co26)) (fun _ hk => hk.2) (.slice Ao29 t403.length co29)) (fun _ hk => hk.2) (.slice Ao30 t406.length co30)) (fun _ hk => hk.2) (.slice Ao31 t409.length co31)) (fun _ h_ => h_.1))) hb); have n1_ := Aside0.mk (Kd.R_below (by refine qR ?_; exact (Kd.R_mono (Kd.R_far (p := ⟨gb412, 3, none⟩) (Kd.R_far (p := ⟨gb412, 2, none⟩) (Kd.R_far (p := ⟨gb412, 1, none⟩) (Kd.R_far (p := ⟨gb412, 0, none⟩) (Kd.R_types HO391.out BK412.out (by decide)) (fun _ hk => hk.2) (.slice Ao26 t400.length co26)) (fun _ hk => hk.2) (.slice Ao29 t403.length co29)) (fun _ hk => hk.2) (.slice Ao30 t406.length co30)) (fun _ hk => hk.2) (.slice Ao31 t409.length co31)) (fun _ h_ => h_.1))) hb); have n2_ := Aside0.mk (Kd.S_below (by refine qS ?_; exact (Kd.S_mono (Kd.S_far (p := ⟨gb412, 3, none⟩) (Kd.S_far (p := ⟨gb412, 2, none⟩) (Kd.S_far (p := ⟨gb412, 1, none⟩) (Kd.S_far (p := ⟨gb412, 0, none⟩) (Kd.S_types HO394.out BK412.out (by decide)) (fun _ hk => hk.2) (.slice Ao26 t400.length co26)) (fun _ hk => hk.2) (.slice Ao29 t403.length co29)) (fun _ hk => hk.2) (.slice Ao30 t406.length co30)) (fun _ hk => hk.2) (.slice Ao31 t409.length co31)) (fun _ h_ => h_.1))) hb); have n3_ := Aside0.mk (Kd.S_below (by refine qS ?_; exact (Kd.S_mono (Kd.S_far (p := ⟨gb412, 3, none⟩) (Kd.S_far (p := ⟨gb412, 2, none⟩) (Kd.S_far (p := ⟨gb412, 1, none⟩) (Kd.S_far (p := ⟨gb412, 0, none⟩) (Kd.S_types HO397.out BK412.out (by decide)) (fun _ hk => hk.2) (.slice Ao26 t400.length co26)) (fun _ hk => hk.2) (.slice Ao29 t403.length co29)) (fun _ hk => hk.2) (.slice Ao30 t406.length co30)) (fun _ hk => hk.2) (.slice Ao31 t409.length co31)) (fun _ h_ => h_.1))) hb); have n4_ := Aside0.mk (Kd.R_below (by refine qR ?_; exact (Kd.R_mono (Kd.R_far (p := ⟨gb412, 3, none⟩) (Kd.R_far (p := ⟨gb412, 2, none⟩) (Kd.R_far (p := ⟨gb412, 1, none⟩) (Kd.R_far (p := ⟨gb412, 0, none⟩) (Kd.R_types HO402.out BK412.out (by decide)) (fun _ hk => hk.2) (.slice Ao26 t400.length co26)) (fun _ hk => hk.2) (.slice Ao29 t403.length co29)) (fun _ hk => hk.2) (.slice Ao30 t406.length co30)) (fun _ hk => hk.2) (.slice Ao31 t409.length co31)) (fun _ h_ => h_.1))) hb); have n5_ := Aside0.mk (Kd.R_below (by refine qR ?_; exact (Kd.R_mono (Kd.R_far (p := ⟨gb412, 3, none⟩) (Kd.R_far (p := ⟨gb412, 2, none⟩) (Kd.R_far (p := ⟨gb412, 1, none⟩) (Kd.R_far (p := ⟨gb412, 0, none⟩) (Kd.R_types HO405.out BK412.out (by decide)) (fun _ hk => hk.2) (.slice Ao26 t400.length co26)) (fun _ hk => hk.2) (.slice Ao29 t403.length co29)) (fun _ hk => hk.2) (.slice Ao30 t406.length co30)) (fun _ hk => hk.2) (.slice Ao31 t409.length co31)) (fun _ h_ => h_.1))) hb); have n6_ := Aside0.mk (Kd.S_below (by refine qS ?_; exact (Kd.S_mono (Kd.S_far (p := ⟨gb412, 3, none⟩) (Kd.S_far (p := ⟨gb412, 2, none⟩) (Kd.S_far (p := ⟨gb412, 1, none⟩) (Kd.S_far (p := ⟨gb412, 0, none⟩) (Kd.S_types HO408.out BK412.out (by decide)) (fun _ hk => hk.2) (.slice Ao26 t400.length co26)) (fun _ hk => hk.2) (.slice Ao29 t403.length co29)) (fun _ hk => hk.2) (.slice Ao30 t406.length co30)) (fun _ hk => hk.2) (.slice Ao31 t409.length co31)) (fun _ h_ => h_.1))) hb); have n7_ := Aside0.mk (Kd.S_below (by refine qS ?_; exact (Kd.S_mono (Kd.S_far (p := ⟨gb412, 3, none⟩) (Kd.S_far (p := ⟨gb412, 2, none⟩) (Kd.S_far (p := ⟨gb412, 1, none⟩) (Kd.S_far (p := ⟨gb412, 0, none⟩) (Kd.S_types HO411.out BK412.out (by decide)) (fun _ hk => hk.2) (.slice Ao26 t400.length co26)) (fun _ hk => hk.2) (.slice Ao29 t403.length co29)) (fun _ hk => hk.2) (.slice Ao30 t406.length co30)) (fun _ hk => hk.2) (.slice Ao31 t409.length co31)) (fun _ h_ => h_.1))) hb); have n8_ := Aside0.mk (blk_below (g := gb384) (o := .cells #[.slice A0_0 l0_0.length c0_0, .slice A0_1 l0_1.length c0_1, .slice A0_2 l0_2.length c0_2, .slice A0_3 l0_3.length c0_3] 28 (0, 0)) (by refine qK ?_; refine blk_far ?_ NB384_412.out _; refine qK ?_; refine blk_far ?_ NB384_412.out _; refine qK ?_; refine blk_far ?_ NB384_412.out _; refine qK ?_; refine blk_far ?_ NB384_412.out _; refine qK ?_; exact BK384.out) hb); have n9_ := Aside0.mk (blk_below (g := gb412) (o := .cells #[.slice Ao26 t400.length co26, .slice Ao29 t403.length co29, .slice Ao30 t406.length co30, .slice Ao31 t409.length co31] 39 (0, 0)) (by refine qK ?_; refine blk_put (cs := #[.slice Ao26 t400.length co26, .slice Ao29 t403.length co29, .slice Ao30 t406.length co30, .slice none 0 0]) ?_ 3 _ rfl; refine qK ?_; refine blk_put (cs := #[.slice Ao26 t400.length co26, .slice Ao29 t403.length co29, .slice none 0 0, .slice none 0 0]) ?_ 2 _ rfl; refine qK ?_; refine blk_put (cs := #[.slice Ao26 t400.length co26, .slice none 0 0, .slice none 0 0, .slice none 0 0]) ?_ 1 _ rfl; refine qK ?_; refine blk_put (cs := #[.slice none 0 0, .slice none 0 0, .slice none 0 0, .slice none 0 0]) ?_ 0 _ rfl; refine qK ?_; exact BK412.out) hb); have n10_ := Aside0.mk (below_step (qb2 HB.out GE384.out GE412.out) hb); clear HO388; clear HO391; clear HO394; clear HO397; clear HO402; clear HO405; clear HO408; clear HO411; clear BK384; clear BK412; clear HB; have HO388 := n0_; have HO391 := n1_; have HO394 := n2_; have HO397 := n3_; have HO402 := n4_; have HO405 := n5_; have HO408 := n6_; have HO411 := n7_; have BK384 := n8_; have BK412 := n9_; have HB := n10_; clear n0_ n1_ n2_ n3_ n4_ n5_ n6_ n7_ n8_ n9_ n10_; (try clear hb); (try clear hb2); (try clear hk); (try clear hi)))
  (try simp only [Act.put, List.setIfInBounds_toArray, List.set_cons_zero, List.set_cons_succ])
  go_cut [38] (fun v38 wc => ∃ (kq : Nat) (x38_11 : Bool), v38 = .bool x38_11 ∧ Aside0 (laws_FnExactUnitText.j0 kq x38_11 l0_0 l0_1 l0_2 l0_3 t400 t403 t406 t409 = some r) ∧ Aside0 (kq ≤ k) ∧ Aside0 (Kd.R Kd.bool 4 wc w.heap.size (fun k_ => some k_ ≠ ((.slice Ao29 t403.length co29) : Value).ownBlock) (.slice Ao26 t400.length co26) t400) ∧ Aside0 (Kd.R Kd.bool 4 wc w.heap.size (fun k_ => some k_ ≠ ((.slice Ao26 t400.length co26) : Value).ownBlock) (.slice Ao29 t403.length co29) t403) ∧ Aside0 (Kd.S k105 105 wc w.heap.size (fun _ => True) (.slice Ao30 t406.length co30) t406) ∧ Aside0 (Kd.S k59 59 wc w.heap.size (fun _ => True) (.slice Ao31 t409.length co31) t409) ∧ Aside0 (wc.heap[gb384]? = some (.cells #[(.slice A0_0 l0_0.length c0_0), (.slice A0_1 l0_1.length c0_1), (.slice A0_2 l0_2.length c0_2), (.slice A0_3 l0_3.length c0_3)] 28 (0, 0))) ∧ Aside0 (wc.heap[gb412]? = some (.cells #[(.slice Ao26 t400.length co26), (.slice Ao29 t403.length co29), (.slice Ao30 t406.length co30), (.slice Ao31 t409.length co31)] 39 (0, 0))) ∧ Aside0 (Below w.heap.size w wc))
  case first =>
   have H := HC12.out
   clear HC12
   by_cases c33 : t413.toList = t398.toList
   ·rw [if_pos c33] at H
    have c33b0 : (t413.toList == t398.toList) = true := beq_iff_eq.mpr c33
    have c33b1 : (t413.toList != t398.toList) = false := bne_eq_false_iff_eq.mpr c33
    clear c33
    (first | rw [c33b0] | (simp only [i64_w, i32_w]; rw [c33b0]) | skip)
    have H' := Aside0.mk H
    clear H
    go_wp2
    go_meet
    case rel => exact ⟨_, ((t414 != t399)), qz, H', ⟨by first | omega | exact Nat.le_refl _⟩, ⟨by refine qR ?_; exact Kd.R_mono HO402.out (fun _ hk => hk.1.1)⟩, ⟨by refine qR ?_; exact Kd.R_mono HO405.out (fun _ hk => hk.1.1)⟩, ⟨by refine qS ?_; exact Kd.S_mono HO408.out (fun _ hk => trivial)⟩, ⟨by refine qS ?_; exact Kd.S_mono HO411.out (fun _ hk => trivial)⟩, ⟨qk BK384.out⟩, ⟨qk BK412.out⟩, ⟨qb2 HB.out GE384.out GE412.out⟩⟩
   ·rw [if_neg c33] at H
    have c33b0 : (t413.toList == t398.toList) = false := beq_eq_false_iff_ne.mpr c33
    have c33b1 : (t413.toList != t398.toList) = true := bne_iff_ne.mpr c33
    (first | rw [c33b0] | (simp only [i64_w, i32_w]; rw [c33b0]) | skip)
    have H' := Aside0.mk H
    clear H
    go_wp2
    go_meet
    case rel => exact ⟨_, (true), qz, H', ⟨by first | omega | exact Nat.le_refl _⟩, ⟨by refine qR ?_; exact Kd.R_mono HO402.out (fun _ hk => hk.1.1)⟩, ⟨by refine qR ?_; exact Kd.R_mono HO405.out (fun _ hk => hk.1.1)⟩, ⟨by refine qS ?_; exact Kd.S_mono HO408.out (fun _ hk => trivial)⟩, ⟨by refine qS ?_; exact Kd.S_mono HO411.out (fun _ hk => trivial)⟩, ⟨qk BK384.out⟩, ⟨qk BK412.out⟩, ⟨qb2 HB.out GE384.out GE412.out⟩⟩
  case rest =>
   clear HC12
   try clear c1
   try clear c2
   try clear p2
   try clear c3
   try clear c4
   try clear c4b0
   try clear c5
   try clear c13
   try clear c14
   try clear c16
   try clear c27
   try clear c33
   try clear c33b0
   try clear c33b1
   try clear hcz14_0
   try clear hcz14_1
   try clear hcz14_2
   try clear hcz14_3
   try clear hcz16_0
   try clear hcz16_1
   try clear hcz16_2
   try clear hcz16_3
   try clear hcz23_0
   try clear hcz23_1
   try clear hcz23_2
   try clear hcz23_3
   try clear hcz28_0
   try clear hcz28_1
   try clear hcz28_2
   try clear hcz28_3
   try clear hcz6_0
   try clear hcz6_1
   try clear hcz6_2
   try clear hcz6_3
   try clear hfz14_0
   try clear hfz14_1
   try clear hfz14_2
   try clear hfz14_3
   try clear hfz16_0
   try clear hfz16_1
   try clear hfz16_2
   try clear hfz16_3
   try clear hfz23_0
   try clear hfz23_1
   try clear hfz23_2
   try clear hfz23_3
   try clear hfz28_0
   try clear hfz28_1
   try clear hfz28_2
   try clear hfz28_3
   try clear hfz6_0
   try clear hfz6_1
   try clear hfz6_2
   try clear hfz6_3
   obtain ⟨kq, x38_11, rfl, HA, HJ11, HO_413000, HO_413001, HO_413002, HO_413003, BK384, BK412, HB⟩ := hcut
   cases kq with
   | zero => exact absurd HA.out (by simp [laws_FnExactUnitText.j0])
   | succ kj11 =>
    have H := HA.out
    clear HA
    simp only [laws_FnExactUnitText.j0] at H
    by_cases c34 : x38_11 = true
    ·subst c34
     have H1 : (some false) = some r := by rw [if_pos rfl] at H; exact H
     clear H
     have H := H1
     clear H1
     exact absurd ((Option.some.inj H).trans hr_.out) (by decide)
    ·replace c34 := Bool.eq_false_iff.mpr c34
     subst c34
     have H1 : ((laws_toDisk.f kj11 l0_0 l0_1 l0_2 l0_3).bind fun bt415 => ((laws_eqDisk.f kj11 t400 t403 t406 t409 bt415.1 bt415.2.1 bt415.2.2.1 bt415.2.2.2).bind fun t427 => (if t427 = true then (some true) else (some false)))) = some r := by rw [if_neg (show ¬ (false = true) by decide)] at H; exact H
     clear H
     have H := H1
     clear H1
     replace H := Option.bind_eq_some_iff.mp H
     obtain ⟨⟨t415, t418, t421, t424⟩, A350, H⟩ := H
     replace H : ((laws_eqDisk.f kj11 t400 t403 t406 t409 t415 t418 t421 t424).bind fun t427 => (if t427 = true then (some true) else (some false))) = some r := H
     have A35 := Aside0.mk A350
     clear A350
     replace H := Option.bind_eq_some_iff.mp H
     obtain ⟨t427, A360, H⟩ := H
     replace H : (if t427 = true then (some true) else (some false)) = some r := H
     have A36 := Aside0.mk A360
     clear A360
     by_cases c37 : t427 = true
     ·subst c37
      have H1 : (some true) = some r := by rw [if_pos rfl] at H; exact H
      clear H
      have H := H1
      clear H1
      obtain rfl := Option.some.inj H
      try go_wp2
      have n0_ := Aside0.mk (Kd.R_drew HO_413000.out)
      have n1_ := Aside0.mk (Kd.R_drew HO_413001.out)
      have n2_ := Aside0.mk (Kd.S_drew HO_413002.out)
      have n3_ := Aside0.mk (Kd.S_drew HO_413003.out)
      have n4_ := Aside0.mk (blk_drew BK384.out)
      have n5_ := Aside0.mk (blk_drew BK412.out)
      have n6_ := Aside0.mk (below_drew1 HB.out)
      clear HO_413000
      clear HO_413001
      clear HO_413002
      clear HO_413003
      clear BK384
      clear BK412
      clear HB
      have HO_413000 := n0_
      have HO_413001 := n1_
      have HO_413002 := n2_
      have HO_413003 := n3_
      have BK384 := n4_
      have BK412 := n5_
      have HB := n6_
      clear n0_ n1_ n2_ n3_ n4_ n5_ n6_
      refine start_ (n := 5) (S := fun w' => w'.cell? ⟨gb412, 0, none⟩ = some (.slice Ao26 t400.length co26) ∧ w'.cell? ⟨gb412, 1, none⟩ = some (.slice Ao29 t403.length co29) ∧ w'.cell? ⟨gb412, 2, none⟩ = some (.slice Ao30 t406.length co30) ∧ w'.cell? ⟨gb412, 3, none⟩ = some (.slice Ao31 t409.length co31) ∧ w'.cell? ⟨gb384, 0, none⟩ = some (.slice A0_0 l0_0.length c0_0) ∧ w'.cell? ⟨gb384, 1, none⟩ = some (.slice A0_1 l0_1.length c0_1) ∧ w'.cell? ⟨gb384, 2, none⟩ = some (.slice A0_2 l0_2.length c0_2) ∧ w'.cell? ⟨gb384, 3, none⟩ = some (.slice A0_3 l0_3.length c0_3)) (ds := []) #[false, false, false, false, false] (by kernel_rfl) rfl rfl ⟨(blk_cell BK412.out 0).trans rfl, (blk_cell BK412.out 1).trans rfl, (blk_cell BK412.out 2).trans rfl, (blk_cell BK412.out 3).trans rfl, (blk_cell BK384.out 0).trans rfl, (blk_cell BK384.out 1).trans rfl, (blk_cell BK384.out 2).trans rfl, (blk_cell BK384.out 3).trans rfl⟩ (fun hHeld => ?_)
      generalize wc.drew = w38 at HO_413000 HO_413001 HO_413002 HO_413003 BK384 BK412 HB hHeld ⊢
      refine take_ (i := 0) (N := some 39) (v := ?_) (a' := ?_) #[true, false, false, false, false] rfl rfl (by kernel_rfl) (fun _ _ _ h => h) (Or.inl ⟨by rfl, ?_⟩) hHeld ?_ ?_
      rotate_left
      ·rintro w' ⟨s0, s1, s2, s3, s4, s5, s6, s7⟩
       go_simp
       with_reducible rfl
      rotate_left
      ·refine qp ?_
       rfl
      refine take_ (i := 1) (N := some 40) (v := ?_) (a' := ?_) #[true, true, false, false, false] rfl rfl (by kernel_rfl) (fun _ _ _ h => h) (Or.inl ⟨by rfl, ?_⟩) hHeld ?_ ?_
      rotate_left
      ·rintro w' ⟨s0, s1, s2, s3, s4, s5, s6, s7⟩
       go_simp
       with_reducible rfl
      rotate_left
      ·refine qp ?_
       rfl
      refine one_ (i := 2) (N := some 41) #[true, true, true, false, false] rfl rfl (by kernel_rfl) (by decide) (fun K hK => ?_)
      refine goes_ Try.func16 (by kernel_rfl) rfl #[.agg #[.slice A0_0 l0_0.length c0_0, .slice A0_1 l0_1.length c0_1, .slice A0_2 l0_2.length c0_2, .slice A0_3 l0_3.length c0_3]] (by rfl) rfl rfl qm ?_
      with_reducible refine (laws_toDisk.calls kj11 _ _ l0_0 _ _ l0_1 _ _ l0_2 _ _ l0_3 t415 t418 t421 t424 _ ?side1 ?side2 ?side3 ?side4 ?side5 ?side6 ?side7 ?side8 A35.out).mono ?_
      (case side1 => repeat (first | exact (Kd.C_below HR0_0.out HB.out) | (with_reducible refine Kd.C_alloc ?_ _) | (with_reducible refine Kd.C_drewN ?_ _) | (with_reducible refine Kd.C_drew ?_)))
      (case side2 => exact HC0_0.out)
      (case side3 => repeat (first | exact (Kd.C_below HR0_1.out HB.out) | (with_reducible refine Kd.C_alloc ?_ _) | (with_reducible refine Kd.C_drewN ?_ _) | (with_reducible refine Kd.C_drew ?_)))
      (case side4 => exact HC0_1.out)
      (case side5 => repeat (first | exact (Kd.C_below HR0_2.out HB.out) | (with_reducible refine Kd.C_alloc ?_ _) | (with_reducible refine Kd.C_drewN ?_ _) | (with_reducible refine Kd.C_drew ?_)))
      (case side6 => exact HC0_2.out)
      (case side7 => repeat (first | exact (Kd.C_below HR0_3.out HB.out) | (with_reducible refine Kd.C_alloc ?_ _) | (with_reducible refine Kd.C_drewN ?_ _) | (with_reducible refine Kd.C_drew ?_)))
      (case side8 => exact HC0_3.out)
      rintro e w39 ⟨v416, v419, v422, v425, rfl, ho0, ho1, ho2, ho3, hb⟩
      refine ⟨_, rfl, ?_⟩
      have n0_ := Aside0.mk (Kd.R_mono (Kd.R_told (Kd.R_told (Kd.R_old (qr HO_413000.out) hb) (Kd.R_base ho0)) (Kd.R_base ho1)) (fun _ h_ => h_.1))
      have n1_ := Aside0.mk (Kd.R_mono (Kd.R_told (Kd.R_told (Kd.R_old (qr HO_413001.out) hb) (Kd.R_base ho0)) (Kd.R_base ho1)) (fun _ h_ => h_.1))
      have n2_ := Aside0.mk (Kd.S_elder' (qs HO_413002.out) (Kd.S_base ho2) hb)
      have n3_ := Aside0.mk (Kd.S_elder' (qs HO_413003.out) (Kd.S_base ho3) hb)
      have n4_ := Aside0.mk (Kd.R_lower (Kd.R_new' (Kd.R_new' ho0 (Kd.R_lt (qr HO_413000.out))) (Kd.R_lt (qr HO_413001.out))) (below_size (qb2 HB.out GE384.out GE412.out)))
      have n5_ := Aside0.mk (Kd.R_lower (Kd.R_new' (Kd.R_new' ho1 (Kd.R_lt (qr HO_413000.out))) (Kd.R_lt (qr HO_413001.out))) (below_size (qb2 HB.out GE384.out GE412.out)))
      have n6_ := Aside0.mk (Kd.S_lower (Kd.S_new' ho2 (Kd.S_lt (qs HO_413002.out))) (below_size (qb2 HB.out GE384.out GE412.out)))
      have n7_ := Aside0.mk (Kd.S_lower (Kd.S_new' ho3 (Kd.S_lt (qs HO_413003.out))) (below_size (qb2 HB.out GE384.out GE412.out)))
      have n8_ := Aside0.mk (blk_below (g := gb384) (o := .cells #[.slice A0_0 l0_0.length c0_0, .slice A0_1 l0_1.length c0_1, .slice A0_2 l0_2.length c0_2, .slice A0_3 l0_3.length c0_3] 28 (0, 0)) (qk BK384.out) hb)
      have n9_ := Aside0.mk (blk_below (g := gb412) (o := .cells #[.slice Ao26 t400.length co26, .slice Ao29 t403.length co29, .slice Ao30 t406.length co30, .slice Ao31 t409.length co31] 39 (0, 0)) (qk BK412.out) hb)
      have n10_ := Aside0.mk (below_step (qb2 HB.out GE384.out GE412.out) hb)
      clear HO_413000
      clear HO_413001
      clear HO_413002
      clear HO_413003
      clear BK384
      clear BK412
      clear HB
      have HO_413000 := n0_
      have HO_413001 := n1_
      have HO_413002 := n2_
      have HO_413003 := n3_
      have HO417 := n4_
      have HO420 := n5_
      have HO423 := n6_
      have HO426 := n7_
      have BK384 := n8_
      have BK412 := n9_
      have HB := n10_
      clear n0_ n1_ n2_ n3_ n4_ n5_ n6_ n7_ n8_ n9_ n10_
      (try clear hb)
      (try clear hb2)
      (try clear hk)
      (try clear hi)
      (try clear ho0)
      (try clear ho1)
      (try clear ho2)
      (try clear ho3)
      obtain ⟨Ao40, co40, eo40⟩ := Kd.R_slice HO417.out
      (first | subst eo40 | (injection eo40 with f1_ f2_ f3_; have f4_ := f1_.symm; have f5_ := f3_.symm; clear f1_ f2_ f3_; subst f4_; subst f5_))
      obtain ⟨Ao41, co41, eo41⟩ := Kd.R_slice HO420.out
      (first | subst eo41 | (injection eo41 with f1_ f2_ f3_; have f4_ := f1_.symm; have f5_ := f3_.symm; clear f1_ f2_ f3_; subst f4_; subst f5_))
      obtain ⟨Ao42, co42, eo42⟩ := Kd.S_slice HO423.out
      (first | subst eo42 | (injection eo42 with f1_ f2_ f3_; have f4_ := f1_.symm; have f5_ := f3_.symm; clear f1_ f2_ f3_; subst f4_; subst f5_))
      obtain ⟨Ao43, co43, eo43⟩ := Kd.S_slice HO426.out
      (first | subst eo43 | (injection eo43 with f1_ f2_ f3_; have f4_ := f1_.symm; have f5_ := f3_.symm; clear f1_ f2_ f3_; subst f4_; subst f5_))
      refine hK.out _ _ ⟨(blk_cell BK412.out 0).trans rfl, (blk_cell BK412.out 1).trans rfl, (blk_cell BK412.out 2).trans rfl, (blk_cell BK412.out 3).trans rfl, (blk_cell BK384.out 0).trans rfl, (blk_cell BK384.out 1).trans rfl, (blk_cell BK384.out 2).trans rfl, (blk_cell BK384.out 3).trans rfl⟩ (fun hHeld => ?_)
      clear hK K
      refine norm_ (a' := ?_) ?_ ?_
      rotate_left
      ·show Act.put _ (some 41) _ = _
       refine qp ?_
       rfl
      refine one_ (i := 3) (N := some 42) #[true, true, true, true, false] rfl rfl (by kernel_rfl) (by decide) (fun K hK => ?_)
      refine goes_ Try.func19 (by kernel_rfl) rfl #[.agg #[.slice Ao26 t400.length co26, .slice Ao29 t403.length co29, .slice Ao30 t406.length co30, .slice Ao31 t409.length co31], .agg #[.slice Ao40 t415.length co40, .slice Ao41 t418.length co41, .slice Ao42 t421.length co42, .slice Ao43 t424.length co43]] (by rfl) rfl rfl qm ?_
      with_reducible refine (laws_eqDisk.calls kj11 _ _ t400 _ _ t403 _ _ t406 _ _ t409 _ _ t415 _ _ t418 _ _ t421 _ _ t424 true _ ?side1 ?side2 ?side3 ?side4 ?side5 ?side6 ?side7 ?side8 ?side9 ?side10 ?side11 ?side12 ?side13 ?side14 ?side15 ?side16 A36.out).mono ?_
      (case side1 => repeat (first | exact (Kd.R_reads' HO_413000.out).2.2 | (with_reducible refine Kd.C_alloc ?_ _) | (with_reducible refine Kd.C_drewN ?_ _) | (with_reducible refine Kd.C_drew ?_)))
      (case side2 => exact (Kd.R_reads' HO_413000.out).2.1)
      (case side3 => repeat (first | exact (Kd.R_reads' HO_413001.out).2.2 | (with_reducible refine Kd.C_alloc ?_ _) | (with_reducible refine Kd.C_drewN ?_ _) | (with_reducible refine Kd.C_drew ?_)))
      (case side4 => exact (Kd.R_reads' HO_413001.out).2.1)
      (case side5 => repeat (first | exact (Kd.S_reads' HO_413002.out).2.2 | (with_reducible refine Kd.C_alloc ?_ _) | (with_reducible refine Kd.C_drewN ?_ _) | (with_reducible refine Kd.C_drew ?_)))
      (case side6 => exact (Kd.S_reads' HO_413002.out).2.1)
      (case side7 => repeat (first | exact (Kd.S_reads' HO_413003.out).2.2 | (with_reducible refine Kd.C_alloc ?_ _) | (with_reducible refine Kd.C_drewN ?_ _) | (with_reducible refine Kd.C_drew ?_)))
      (case side8 => exact (Kd.S_reads' HO_413003.out).2.1)
      (case side9 => repeat (first | exact (Kd.R_reads' HO417.out).2.2 | (with_reducible refine Kd.C_alloc ?_ _) | (with_reducible refine Kd.C_drewN ?_ _) | (with_reducible refine Kd.C_drew ?_)))
      (case side10 => exact (Kd.R_reads' HO417.out).2.1)
      (case side11 => repeat (first | exact (Kd.R_reads' HO420.out).2.2 | (with_reducible refine Kd.C_alloc ?_ _) | (with_reducible refine Kd.C_drewN ?_ _) | (with_reducible refine Kd.C_drew ?_)))
      (case side12 => exact (Kd.R_reads' HO420.out).2.1)
      (case side13 => repeat (first | exact (Kd.S_reads' HO423.out).2.2 | (with_reducible refine Kd.C_alloc ?_ _) | (with_reducible refine Kd.C_drewN ?_ _) | (with_reducible refine Kd.C_drew ?_)))
      (case side14 => exact (Kd.S_reads' HO423.out).2.1)
      (case side15 => repeat (first | exact (Kd.S_reads' HO426.out).2.2 | (with_reducible refine Kd.C_alloc ?_ _) | (with_reducible refine Kd.C_drewN ?_ _) | (with_reducible refine Kd.C_drew ?_)))
      (case side16 => exact (Kd.S_reads' HO426.out).2.1)
      rintro e w44 ⟨rfl, hb⟩
      refine ⟨_, rfl, ?_⟩
      have n0_ := Aside0.mk (Kd.R_below (qr HO_413000.out) hb)
      have n1_ := Aside0.mk (Kd.R_below (qr HO_413001.out) hb)
      have n2_ := Aside0.mk (Kd.S_below (qs HO_413002.out) hb)
      have n3_ := Aside0.mk (Kd.S_below (qs HO_413003.out) hb)
      have n4_ := Aside0.mk (Kd.R_below (qr HO417.out) hb)
      have n5_ := Aside0.mk (Kd.R_below (qr HO420.out) hb)
      have n6_ := Aside0.mk (Kd.S_below (qs HO423.out) hb)
      have n7_ := Aside0.mk (Kd.S_below (qs HO426.out) hb)
      have n8_ := Aside0.mk (blk_below (g := gb384) (o := .cells #[.slice A0_0 l0_0.length c0_0, .slice A0_1 l0_1.length c0_1, .slice A0_2 l0_2.length c0_2, .slice A0_3 l0_3.length c0_3] 28 (0, 0)) (qk BK384.out) hb)
      have n9_ := Aside0.mk (blk_below (g := gb412) (o := .cells #[.slice Ao26 t400.length co26, .slice Ao29 t403.length co29, .slice Ao30 t406.length co30, .slice Ao31 t409.length co31] 39 (0, 0)) (qk BK412.out) hb)
      have n10_ := Aside0.mk (below_step (qb2 HB.out GE384.out GE412.out) hb)
      clear HO_413000
      clear HO_413001
      clear HO_413002
      clear HO_413003
      clear HO417
      clear HO420
      clear HO423
      clear HO426
      clear BK384
      clear BK412
      clear HB
      have HO_413000 := n0_
      have HO_413001 := n1_
      have HO_413002 := n2_
      have HO_413003 := n3_
      have HO417 := n4_
      have HO420 := n5_
      have HO423 := n6_
      have HO426 := n7_
      have BK384 := n8_
      have BK412 := n9_
      have HB := n10_
      clear n0_ n1_ n2_ n3_ n4_ n5_ n6_ n7_ n8_ n9_ n10_
      (try clear hb)
      (try clear hb2)
      (try clear hk)
      (try clear hi)
      refine hK.out _ _ ⟨(blk_cell BK412.out 0).trans rfl, (blk_cell BK412.out 1).trans rfl, (blk_cell BK412.out 2).trans rfl, (blk_cell BK412.out 3).trans rfl, (blk_cell BK384.out 0).trans rfl, (blk_cell BK384.out 1).trans rfl, (blk_cell BK384.out 2).trans rfl, (blk_cell BK384.out 3).trans rfl⟩ (fun hHeld => ?_)
      clear hK K
      refine norm_ (a' := ?_) ?_ ?_
      rotate_left
      ·show Act.put _ (some 42) _ = _
       refine qp ?_
       rfl
      refine pure_ (i := 4) (N := some 43) (v := ?_) (a' := ?_) #[true, true, true, true, true] rfl rfl (by kernel_rfl) (fun _ _ _ h => h) (Or.inl ⟨by rfl, ?_⟩) ?_ ?_
      rotate_left
      ·intro w'
       go_simp
       with_reducible rfl
      rotate_left
      ·refine qp ?_
       rfl
      refine done_ (by kernel_rfl) ?_
      try go_wp2
      go_ret
      exact ⟨qe, qb2 HB.out GE384.out GE412.out⟩
     ·replace c37 := Bool.eq_false_iff.mpr c37
      subst c37
      have H1 : (some false) = some r := by rw [if_neg (show ¬ (false = true) by decide)] at H; exact H
      clear H
      have H := H1
      clear H1
      exact absurd ((Option.some.inj H).trans hr_.out) (by decide)

def good24 (x : S24) : Prop := (x.f0.length * 1 ≤ 140737488351232 ∧ ∀ x0 ∈ x.f0, True) ∧ (x.f1.length * 1 ≤ 140737488351232 ∧ ∀ x0 ∈ x.f1, True)
def good142 (x : S142) : Prop := ((Lit.int .i64 x.f0).wf = true) ∧ ((Lit.int .i64 x.f1).wf = true) ∧ (x.f2.length * 8 ≤ 140737488351232 ∧ ∀ x0 ∈ x.f2, (Lit.int .i64 x0).wf = true)
def good151 (x : S151) : Prop := (x.f0.size ≤ 140737488351232) ∧ ((Lit.int .i64 x.f1).wf = true)
def good54 (x : S54) : Prop := (True) ∧ (x.f1.length * 24 ≤ 140737488351232 ∧ ∀ x0 ∈ x.f1, good151 x0) ∧ (x.f2.size ≤ 140737488351232)
def good28 (x : S28) : Prop := (good24 x.f0) ∧ (x.f1.length * 40 ≤ 140737488351232 ∧ ∀ x0 ∈ x.f1, good142 x0) ∧ (x.f2.length * 48 ≤ 140737488351232 ∧ ∀ x0 ∈ x.f2, good54 x0)
/-- THE ONE PURE STATEMENT of laws_FnExactUnitText. -/
def laws_FnExactUnitText.Pure : Prop := ∀ (l0_0 : List Bool) (l0_1 : List Bool) (l0_2 : List (S142)) (l0_3 : List (S54)) (a1 : Int), (good28 (⟨(⟨l0_0, l0_1⟩ : S24), l0_2, l0_3⟩ : S28)) → ((Lit.int .i64 a1).wf = true) → ∃ k, laws_FnExactUnitText.f k l0_0 l0_1 l0_2 l0_3 a1 = some true
theorem laws_FnExactUnitText.walk (P : laws_FnExactUnitText.Pure) (A0_0 : Option Addr) (c0_0 : Nat) (l0_0 : List Bool) (A0_1 : Option Addr) (c0_1 : Nat) (l0_1 : List Bool) (A0_2 : Option Addr) (c0_2 : Nat) (l0_2 : List (S142)) (A0_3 : Option Addr) (c0_3 : Nat) (l0_3 : List (S54)) (a1 : Int) (w : World) (g0 : good28 (⟨(⟨l0_0, l0_1⟩ : S24), l0_2, l0_3⟩ : S28)) (g1 : (Lit.int .i64 a1).wf = true) (hr0_0 : Kd.C Kd.bool w A0_0 l0_0.length l0_0) (hc0_0 : l0_0.length ≤ c0_0) (hr0_1 : Kd.C Kd.bool w A0_1 l0_1.length l0_1) (hc0_1 : l0_1.length ≤ c0_1) (hr0_2 : Kd.C k142 w A0_2 l0_2.length l0_2) (hc0_2 : l0_2.length ≤ c0_2) (hr0_3 : Kd.C k54 w A0_3 l0_3.length l0_3) (hc0_3 : l0_3.length ≤ c0_3) :
  Calls Try.prog 13 #[.agg #[.slice A0_0 l0_0.length c0_0, .slice A0_1 l0_1.length c0_1, .slice A0_2 l0_2.length c0_2, .slice A0_3 l0_3.length c0_3], .int .i64 a1] w fun e w' => e = .returned (.bool true) ∧ Below w.heap.size w w' := by
 obtain ⟨k, h⟩ := P l0_0 l0_1 l0_2 l0_3 a1 g0 g1
 refine (laws_FnExactUnitText.calls k _ _ l0_0 _ _ l0_1 _ _ l0_2 _ _ l0_3 a1 true w hr0_0 hc0_0 hr0_1 hc0_1 hr0_2 hc0_2 hr0_3 hc0_3 h ⟨rfl⟩).mono ?_
 rintro e w' ⟨rfl, hd⟩
 exact ⟨rfl, hd⟩

end Go.Proofs.Ytdnbpapolckklaa.PFnExactUnitText
