-- Written by a program of this session (a changed copy of the kit's print: wip/print2). Lean checks it.
import Derived.Test.YtmkcpkhhlbmgcaaPFnExactDepAtx0
import Derived.Test.YtmkcpkhhlbmgcaaPFnExactDepAtx1
namespace Go.Proofs.Ytmkcpkhhlbmgcaa.PFnExactDepAt
open Go.RowKit Go.Proofs.YtmkcpkhhlbmgcaaW.PrintWords Go.Proofs.YtmkcpkhhlbmgcaaW.PrintLast Go.Proofs.YtmkcpkhhlbmgcaaW.PrintMore
attribute [local go_sem] max2_int min2_int max_two min_two max_three min_three max_four min_four   -- for this text's walks alone
attribute [local go_sem] Go.Proofs.Ytmkcpkhhlbmgcaa.Pad.isSome_setCell
set_option linter.unusedVariables false
set_option linter.unusedSimpArgs false

/-! ### laws_szDepS: function 11 -/
def laws_szDepS.l0 : Nat → List (S64) → Int → Int → Option (Int)
 | 0, _, _, _ => none
 | k + 1, x0, x1, x5 => if x5 < (x0.length : Int) then (if 0 ≤ x5 then ((laws_szDep.f ((rd_T64 x0 x5).f0) ((rd_T64 x0 x5).f1) ((rd_T64 x0 x5).f2) ((rd_T64 x0 x5).f3) ((rd_T64 x0 x5).f4) ((rd_T64 x0 x5).f5) ((rd_T64 x0 x5).f6) ((rd_T64 x0 x5).f7) ((rd_T64 x0 x5).f8) ((rd_T64 x0 x5).f9) ((rd_T64 x0 x5).f10) x1).bind fun t122 => (if t122 < 0 then (some (-1)) else (laws_szDepS.l0 k x0 t122 (wrap64 (x5 + 1))))) else (none)) else (some x1)
def laws_szDepS.f (k : Nat) (l0 : List (S64)) (a1 : Int) : Option (Int) := if (wrap64 (a1 - (l0.length : Int))) < 0 then (some (-1)) else (laws_szDepS.l0 k l0 (wrap64 (a1 - (l0.length : Int))) 0)
theorem laws_szDepS.mono_l : ∀ k, (∀ y0 y1 y2, LeO (laws_szDepS.l0 k y0 y1 y2) (laws_szDepS.l0 (k + 1) y0 y1 y2))
 | 0 => fun _ _ _ r h => by simp [laws_szDepS.l0] at h
 | k + 1 => by
  have ih0 := laws_szDepS.mono_l k
  ·intro y0 y1 y2
   unfold laws_szDepS.l0
   repeat' first
   | (with_reducible exact ih0 _ _ _)
   | with_reducible first | exact LeO.refl _ | exact LeO.none _ | refine LeO.ite ?_ ?_ | refine LeO.bind ?_ (fun _ => ?_)
   | exact ih0 _ _ _
   | exact LeO.none _
   | refine LeO.ite ?_ ?_
   | refine LeO.bind ?_ (fun _ => ?_)
theorem laws_szDepS.mono : ∀ a0 a1 k, LeO (laws_szDepS.f k a0 a1) (laws_szDepS.f (k + 1) a0 a1) := by
 intro a0 a1 k
 have ih0 := laws_szDepS.mono_l k
 unfold laws_szDepS.f
 repeat' first
   | (with_reducible exact ih0 _ _ _)
   | with_reducible first | exact LeO.refl _ | exact LeO.none _ | refine LeO.ite ?_ ?_ | refine LeO.bind ?_ (fun _ => ?_)
   | exact ih0 _ _ _
   | exact LeO.none _
   | refine LeO.ite ?_ ?_
   | refine LeO.bind ?_ (fun _ => ?_)
set_option maxHeartbeats 8000000 in
set_option maxRecDepth 100000 in
theorem laws_szDepS.calls (k : Nat) (A0 : Option Addr) (c0 : Nat) (l0 : List (S64)) (a1 : Int) (r : Int) (w : World) (hr0 : Kd.C k64 w A0 l0.length l0) (hc0 : l0.length ≤ c0) (h : laws_szDepS.f k l0 a1 = some r) :
  Calls Try.prog 11 #[.slice A0 l0.length c0, .int .i64 a1] w fun e w' => e = .returned (.int .i64 r) ∧ Below w.heap.size w w' := by
 have hu64 := Try.underlying64
 have HR0 := Aside0.mk hr0
 have HC0 := Aside0.mk hc0
 clear hr0 hc0
 have HB := Aside0.mk (Below.refl w.heap.size w)
 have H : (if (wrap64 (a1 - (l0.length : Int))) < 0 then (some (-1)) else (laws_szDepS.l0 k l0 (wrap64 (a1 - (l0.length : Int))) 0)) = some r := h
 clear h
 by_cases c3 : (wrap64 (a1 - (l0.length : Int))) < 0
 ·rw [if_pos c3] at H
  have c3b0 : decide ((wrap64 (a1 - (l0.length : Int))) < 0) = true := decide_eq_true c3
  clear c3
  obtain rfl := Option.some.inj H
  go_enter Try.func11, Try.ntmps11
  go_wp2
  go_ret
  exact ⟨qe, qb HB.out⟩
 ·rw [if_neg c3] at H
  have c3b0 : decide ((wrap64 (a1 - (l0.length : Int))) < 0) = false := decide_eq_false c3
  clear c3
  have H' := Aside0.mk H
  clear H
  go_enter Try.func11, Try.ntmps11
  go_wp2
  go_loopg [1, 5] k (fun kq v1 v5 w' => ∃ (x1_1 : Int) (x5_1 : Int), v1 = .int .i64 x1_1 ∧ v5 = .int .i64 x5_1 ∧ Aside0 (laws_szDepS.l0 kq l0 x1_1 x5_1 = some r) ∧ Aside0 (kq ≤ k) ∧ Aside0 (Below w.heap.size w w'))
  case atStart => exact ⟨(wrap64 (a1 - (l0.length : Int))), (0), qz, qz, H', ⟨Nat.le_refl _⟩, ⟨qb HB.out⟩⟩
  case round =>
   clear H'
   try clear c1
   try clear p2
   try clear c3
   try clear c3b0
   obtain ⟨x1_1, x5_1, rfl, rfl, HA, HK1, HB⟩ := hrel
   cases gk with
   | zero => exact absurd HA.out (by simp [laws_szDepS.l0])
   | succ k1 =>
    have H := HA.out
    clear HA
    simp only [laws_szDepS.l0] at H
    by_cases c4 : x5_1 < (l0.length : Int)
    ·rw [if_pos c4] at H
     have c4b0 : decide (x5_1 < (l0.length : Int)) = true := decide_eq_true c4
     clear c4
     by_cases c5 : 0 ≤ x5_1
     ·rw [if_pos c5] at H
      have c5b0 : decide (0 ≤ x5_1) = true := decide_eq_true c5
      clear c5
      replace H := Option.bind_eq_some_iff.mp H
      obtain ⟨t122, A60, H⟩ := H
      replace H : (if t122 < 0 then (some (-1)) else (laws_szDepS.l0 k1 l0 t122 (wrap64 (x5_1 + 1)))) = some r := H
      have A6 := Aside0.mk A60
      clear A60
      by_cases c7 : t122 < 0
      ·rw [if_pos c7] at H
       have c7b0 : decide (t122 < 0) = true := decide_eq_true c7
       clear c7
       obtain rfl := Option.some.inj H
       have p121 : 0 ≤ (x5_1 : Int) := qo
       have q121 : x5_1 < (l0.length : Int) := qo
       obtain ⟨ad121, A121_10, c121_10, e121, hx121_0, hx121_1, hx121_2, hx121_3, hx121_4, hx121_5, hx121_6, hx121_7, hx121_8, hx121_9, hx121_10, hl121_10, hi121_10⟩ := at_T64 HR0.out x5_1 p121 q121
       cases e121
       replace hx121_0 := qc HB.out hx121_0
       replace hx121_1 := qc HB.out hx121_1
       replace hx121_2 := qc HB.out hx121_2
       replace hx121_3 := qc HB.out hx121_3
       replace hx121_4 := qc HB.out hx121_4
       replace hx121_5 := qc HB.out hx121_5
       replace hx121_6 := qc HB.out hx121_6
       replace hx121_7 := qc HB.out hx121_7
       replace hx121_8 := qc HB.out hx121_8
       replace hx121_9 := qc HB.out hx121_9
       replace hx121_10 := qc HB.out hx121_10
       have HR121_10 := Aside0.mk hi121_10
       have HC121_10 := Aside0.mk hl121_10
       clear hi121_10 hl121_10
       replace p121 := eq_true p121
       replace q121 := eq_true q121
       go_wp2_with (first | ((with_reducible refine gate_callee (f := 23) rfl ?_); refine goesL_ (some 23) rfl rfl Try.func23 (by kernel_rfl) rfl #[.agg #[.int .i64 ((rd_T64 l0 x5_1).f0), .int .i64 ((rd_T64 l0 x5_1).f1), .int .i64 ((rd_T64 l0 x5_1).f2), .int .i64 ((rd_T64 l0 x5_1).f3), .int .i64 ((rd_T64 l0 x5_1).f4), .int .i64 ((rd_T64 l0 x5_1).f5), .string ((rd_T64 l0 x5_1).f6), .bool ((rd_T64 l0 x5_1).f7), .bool ((rd_T64 l0 x5_1).f8), .int .i64 ((rd_T64 l0 x5_1).f9), .slice A121_10 ((rd_T64 l0 x5_1).f10).length c121_10], .int .i64 x1_1] rfl qm ?_; (with_reducible refine (laws_szDep.calls ((rd_T64 l0 x5_1).f0) ((rd_T64 l0 x5_1).f1) ((rd_T64 l0 x5_1).f2) ((rd_T64 l0 x5_1).f3) ((rd_T64 l0 x5_1).f4) ((rd_T64 l0 x5_1).f5) ((rd_T64 l0 x5_1).f6) ((rd_T64 l0 x5_1).f7) ((rd_T64 l0 x5_1).f8) ((rd_T64 l0 x5_1).f9) _ _ ((rd_T64 l0 x5_1).f10) x1_1 t122 _ ?side1 ?side2 A6.out).mono ?_); (case side1 => repeat (first | exact (Kd.C_below HR121_10.out HB.out) | (with_reducible refine Kd.C_alloc ?_ _) | (with_reducible refine Kd.C_drewN ?_ _) | (with_reducible refine Kd.C_drew ?_))); (case side2 => exact HC121_10.out); rintro e w8 ⟨rfl, hb⟩; refine ⟨_, rfl, ?_⟩; have n0_ := Aside0.mk (below_step (qb HB.out) hb); clear HB; have HB := n0_; clear n0_; (try clear hb); (try clear hb2); (try clear hk); (try clear hi)))
       go_ret
       exact ⟨qe, qb HB.out⟩
      ·rw [if_neg c7] at H
       have c7b0 : decide (t122 < 0) = false := decide_eq_false c7
       clear c7
       have H' := Aside0.mk H
       clear H
       have p121 : 0 ≤ (x5_1 : Int) := qo
       have q121 : x5_1 < (l0.length : Int) := qo
       obtain ⟨ad121, A121_10, c121_10, e121, hx121_0, hx121_1, hx121_2, hx121_3, hx121_4, hx121_5, hx121_6, hx121_7, hx121_8, hx121_9, hx121_10, hl121_10, hi121_10⟩ := at_T64 HR0.out x5_1 p121 q121
       cases e121
       replace hx121_0 := qc HB.out hx121_0
       replace hx121_1 := qc HB.out hx121_1
       replace hx121_2 := qc HB.out hx121_2
       replace hx121_3 := qc HB.out hx121_3
       replace hx121_4 := qc HB.out hx121_4
       replace hx121_5 := qc HB.out hx121_5
       replace hx121_6 := qc HB.out hx121_6
       replace hx121_7 := qc HB.out hx121_7
       replace hx121_8 := qc HB.out hx121_8
       replace hx121_9 := qc HB.out hx121_9
       replace hx121_10 := qc HB.out hx121_10
       have HR121_10 := Aside0.mk hi121_10
       have HC121_10 := Aside0.mk hl121_10
       clear hi121_10 hl121_10
       replace p121 := eq_true p121
       replace q121 := eq_true q121
       go_wp2_with (first | ((with_reducible refine gate_callee (f := 23) rfl ?_); refine goesL_ (some 23) rfl rfl Try.func23 (by kernel_rfl) rfl #[.agg #[.int .i64 ((rd_T64 l0 x5_1).f0), .int .i64 ((rd_T64 l0 x5_1).f1), .int .i64 ((rd_T64 l0 x5_1).f2), .int .i64 ((rd_T64 l0 x5_1).f3), .int .i64 ((rd_T64 l0 x5_1).f4), .int .i64 ((rd_T64 l0 x5_1).f5), .string ((rd_T64 l0 x5_1).f6), .bool ((rd_T64 l0 x5_1).f7), .bool ((rd_T64 l0 x5_1).f8), .int .i64 ((rd_T64 l0 x5_1).f9), .slice A121_10 ((rd_T64 l0 x5_1).f10).length c121_10], .int .i64 x1_1] rfl qm ?_; (with_reducible refine (laws_szDep.calls ((rd_T64 l0 x5_1).f0) ((rd_T64 l0 x5_1).f1) ((rd_T64 l0 x5_1).f2) ((rd_T64 l0 x5_1).f3) ((rd_T64 l0 x5_1).f4) ((rd_T64 l0 x5_1).f5) ((rd_T64 l0 x5_1).f6) ((rd_T64 l0 x5_1).f7) ((rd_T64 l0 x5_1).f8) ((rd_T64 l0 x5_1).f9) _ _ ((rd_T64 l0 x5_1).f10) x1_1 t122 _ ?side1 ?side2 A6.out).mono ?_); (case side1 => repeat (first | exact (Kd.C_below HR121_10.out HB.out) | (with_reducible refine Kd.C_alloc ?_ _) | (with_reducible refine Kd.C_drewN ?_ _) | (with_reducible refine Kd.C_drew ?_))); (case side2 => exact HC121_10.out); rintro e w9 ⟨rfl, hb⟩; refine ⟨_, rfl, ?_⟩; have n0_ := Aside0.mk (below_step (qb HB.out) hb); clear HB; have HB := n0_; clear n0_; (try clear hb); (try clear hb2); (try clear hk); (try clear hi)))
       go_roundg k1
       case measure => have := HK1.out; omega
       case rel => exact ⟨(t122), (wrap64 (x5_1 + 1)), qz, qz, H', ⟨by have := HK1.out; omega⟩, ⟨qb HB.out⟩⟩
     ·rw [if_neg c5] at H
      exact absurd H (by simp)
    ·rw [if_neg c4] at H
     have c4b0 : decide (x5_1 < (l0.length : Int)) = false := decide_eq_false c4
     clear c4
     obtain rfl := Option.some.inj H
     go_wp2
     go_ret
     exact ⟨qe, qb HB.out⟩

/-! ### laws_szMem: function 4 -/
def laws_szMem.f (k : Nat) (l0_0 : List Bool) (l0_1 : List Bool) (l0_2 : List (S75)) (l0_3 : List (S79)) (l0_4 : List Bool) (l0_5 : List (S64)) (a0_6 : Int) (a1 : Int) : Option (Int) := (laws_szDisk.f k l0_0 l0_1 l0_2 l0_3 a1).bind fun t124 => (if t124 < 0 then (some (-1)) else ((laws_szBoolS.f l0_4 t124).bind fun t125 => (if t125 < 0 then (some (-1)) else ((laws_szDepS.f k l0_5 t125).bind fun t126 => (if t126 < 0 then (some (-1)) else (some t126))))))
theorem laws_szMem.mono : ∀ a0 a1 a2 a3 a4 a5 a6 a7 k, LeO (laws_szMem.f k a0 a1 a2 a3 a4 a5 a6 a7) (laws_szMem.f (k + 1) a0 a1 a2 a3 a4 a5 a6 a7) := by
 intro a0 a1 a2 a3 a4 a5 a6 a7 k
 unfold laws_szMem.f
 repeat' first
   | (with_reducible exact laws_szDepS.mono _ _ _)
   | (with_reducible exact laws_szDisk.mono _ _ _ _ _ _)
   | with_reducible first | exact LeO.refl _ | exact LeO.none _ | refine LeO.ite ?_ ?_ | refine LeO.bind ?_ (fun _ => ?_)
   | exact laws_szDepS.mono _ _ _
   | exact laws_szDisk.mono _ _ _ _ _ _
   | exact LeO.none _
   | refine LeO.ite ?_ ?_
   | refine LeO.bind ?_ (fun _ => ?_)
set_option maxHeartbeats 8000000 in
set_option maxRecDepth 100000 in
theorem laws_szMem.calls (k : Nat) (A0_0 : Option Addr) (c0_0 : Nat) (l0_0 : List Bool) (A0_1 : Option Addr) (c0_1 : Nat) (l0_1 : List Bool) (A0_2 : Option Addr) (c0_2 : Nat) (l0_2 : List (S75)) (A0_3 : Option Addr) (c0_3 : Nat) (l0_3 : List (S79)) (A0_4 : Option Addr) (c0_4 : Nat) (l0_4 : List Bool) (A0_5 : Option Addr) (c0_5 : Nat) (l0_5 : List (S64)) (a0_6 : Int) (a1 : Int) (r : Int) (w : World) (hr0_0 : Kd.C Kd.bool w A0_0 l0_0.length l0_0) (hc0_0 : l0_0.length ≤ c0_0) (hr0_1 : Kd.C Kd.bool w A0_1 l0_1.length l0_1) (hc0_1 : l0_1.length ≤ c0_1) (hr0_2 : Kd.C k75 w A0_2 l0_2.length l0_2) (hc0_2 : l0_2.length ≤ c0_2) (hr0_3 : Kd.C k79 w A0_3 l0_3.length l0_3) (hc0_3 : l0_3.length ≤ c0_3) (hr0_4 : Kd.C Kd.bool w A0_4 l0_4.length l0_4) (hc0_4 : l0_4.length ≤ c0_4) (hr0_5 : Kd.C k64 w A0_5 l0_5.length l0_5) (hc0_5 : l0_5.length ≤ c0_5) (h : laws_szMem.f k l0_0 l0_1 l0_2 l0_3 l0_4 l0_5 a0_6 a1 = some r) :
  Calls Try.prog 4 #[.agg #[.slice A0_0 l0_0.length c0_0, .slice A0_1 l0_1.length c0_1, .slice A0_2 l0_2.length c0_2, .slice A0_3 l0_3.length c0_3, .slice A0_4 l0_4.length c0_4, .slice A0_5 l0_5.length c0_5, .int .i64 a0_6], .int .i64 a1] w fun e w' => e = .returned (.int .i64 r) ∧ Below w.heap.size w w' := by
 have hu31 := Try.underlying31
 have hu28 := Try.underlying28
 have HR0_0 := Aside0.mk hr0_0
 have HC0_0 := Aside0.mk hc0_0
 clear hr0_0 hc0_0
 have HR0_1 := Aside0.mk hr0_1
 have HC0_1 := Aside0.mk hc0_1
 clear hr0_1 hc0_1
 have HR0_2 := Aside0.mk hr0_2
 have HC0_2 := Aside0.mk hc0_2
 clear hr0_2 hc0_2
 have HR0_3 := Aside0.mk hr0_3
 have HC0_3 := Aside0.mk hc0_3
 clear hr0_3 hc0_3
 have HR0_4 := Aside0.mk hr0_4
 have HC0_4 := Aside0.mk hc0_4
 clear hr0_4 hc0_4
 have HR0_5 := Aside0.mk hr0_5
 have HC0_5 := Aside0.mk hc0_5
 clear hr0_5 hc0_5
 have HB := Aside0.mk (Below.refl w.heap.size w)
 have H : ((laws_szDisk.f k l0_0 l0_1 l0_2 l0_3 a1).bind fun t124 => (if t124 < 0 then (some (-1)) else ((laws_szBoolS.f l0_4 t124).bind fun t125 => (if t125 < 0 then (some (-1)) else ((laws_szDepS.f k l0_5 t125).bind fun t126 => (if t126 < 0 then (some (-1)) else (some t126))))))) = some r := h
 clear h
 replace H := Option.bind_eq_some_iff.mp H
 obtain ⟨t124, A30, H⟩ := H
 replace H : (if t124 < 0 then (some (-1)) else ((laws_szBoolS.f l0_4 t124).bind fun t125 => (if t125 < 0 then (some (-1)) else ((laws_szDepS.f k l0_5 t125).bind fun t126 => (if t126 < 0 then (some (-1)) else (some t126)))))) = some r := H
 have A3 := Aside0.mk A30
 clear A30
 by_cases c4 : t124 < 0
 ·rw [if_pos c4] at H
  have c4b0 : decide (t124 < 0) = true := decide_eq_true c4
  clear c4
  obtain rfl := Option.some.inj H
  go_enter Try.func4, Try.ntmps4
  go_wp2_with (first | ((with_reducible refine gate_dst (N := 2) rfl ?_); refine box_event ?hg (N := 2) ?hd (cs := #[.slice A0_0 l0_0.length c0_0, .slice A0_1 l0_1.length c0_1, .slice A0_2 l0_2.length c0_2, .slice A0_3 l0_3.length c0_3, .slice A0_4 l0_4.length c0_4, .slice A0_5 l0_5.length c0_5, .int .i64 a0_6]) (t := 31) ?hr ?_; (case hd => rfl); (case hg => rfl); (case hr => first | (go_simp; done) | (go_simp; rfl)); intro gb123 hg w5 hbox hb; have n0_ := Aside0.mk (below_step (qb HB.out) hb); have n1_ := Aside0.mk (hbox); have n2_ := Aside0.mk ((by rw [hg]; exact (below_size (qb HB.out)) : w.heap.size ≤ gb123)); have n3_ := Aside0.mk ((by rw [hg]; exact (below_size (qb HB.out)) : w.heap.size ≤ gb123)); clear HB; have HB := n0_; have BK123 := n1_; have GW123 := n2_; have GE123 := n3_; clear n0_ n1_ n2_ n3_; clear hb hbox hg; have hcz6_0 : w5.cell? ⟨gb123, 0, none⟩ = some (.slice A0_0 l0_0.length c0_0) := (blk_cell BK123.out 0).trans rfl; have hcz6_1 : w5.cell? ⟨gb123, 1, none⟩ = some (.slice A0_1 l0_1.length c0_1) := (blk_cell BK123.out 1).trans rfl; have hcz6_2 : w5.cell? ⟨gb123, 2, none⟩ = some (.slice A0_2 l0_2.length c0_2) := (blk_cell BK123.out 2).trans rfl; have hcz6_3 : w5.cell? ⟨gb123, 3, none⟩ = some (.slice A0_3 l0_3.length c0_3) := (blk_cell BK123.out 3).trans rfl; have hcz6_4 : w5.cell? ⟨gb123, 4, none⟩ = some (.slice A0_4 l0_4.length c0_4) := (blk_cell BK123.out 4).trans rfl; have hcz6_5 : w5.cell? ⟨gb123, 5, none⟩ = some (.slice A0_5 l0_5.length c0_5) := (blk_cell BK123.out 5).trans rfl; have hcz6_6 : w5.cell? ⟨gb123, 6, none⟩ = some (.int .i64 a0_6) := (blk_cell BK123.out 6).trans rfl; have hfz6_0 := blk_frozen BK123.out 0; have hfz6_1 := blk_frozen BK123.out 1; have hfz6_2 := blk_frozen BK123.out 2; have hfz6_3 := blk_frozen BK123.out 3; have hfz6_4 := blk_frozen BK123.out 4; have hfz6_5 := blk_frozen BK123.out 5; have hfz6_6 := blk_frozen BK123.out 6) | ((with_reducible refine gate_callee (f := 9) rfl ?_); refine goesL_ (some 8) rfl rfl Try.func9 (by kernel_rfl) rfl #[.agg #[.slice A0_0 l0_0.length c0_0, .slice A0_1 l0_1.length c0_1, .slice A0_2 l0_2.length c0_2, .slice A0_3 l0_3.length c0_3], .int .i64 a1] rfl qm ?_; (with_reducible refine (laws_szDisk.calls k _ _ l0_0 _ _ l0_1 _ _ l0_2 _ _ l0_3 a1 t124 _ ?side1 ?side2 ?side3 ?side4 ?side5 ?side6 ?side7 ?side8 A3.out).mono ?_); (case side1 => repeat (first | exact (Kd.C_below HR0_0.out HB.out) | (with_reducible refine Kd.C_alloc ?_ _) | (with_reducible refine Kd.C_drewN ?_ _) | (with_reducible refine Kd.C_drew ?_))); (case side2 => exact HC0_0.out); (case side3 => repeat (first | exact (Kd.C_below HR0_1.out HB.out) | (with_reducible refine Kd.C_alloc ?_ _) | (with_reducible refine Kd.C_drewN ?_ _) | (with_reducible refine Kd.C_drew ?_))); (case side4 => exact HC0_1.out); (case side5 => repeat (first | exact (Kd.C_below HR0_2.out HB.out) | (with_reducible refine Kd.C_alloc ?_ _) | (with_reducible refine Kd.C_drewN ?_ _) | (with_reducible refine Kd.C_drew ?_))); (case side6 => exact HC0_2.out); (case side7 => repeat (first | exact (Kd.C_below HR0_3.out HB.out) | (with_reducible refine Kd.C_alloc ?_ _) | (with_reducible refine Kd.C_drewN ?_ _) | (with_reducible refine Kd.C_drew ?_))); (case side8 => exact HC0_3.out); rintro e w7 ⟨rfl, hb⟩; refine ⟨_, rfl, ?_⟩; have n0_ := Aside0.mk (blk_below (g := gb123) (o := .cells #[.slice A0_0 l0_0.length c0_0, .slice A0_1 l0_1.length c0_1, .slice A0_2 l0_2.length c0_2, .slice A0_3 l0_3.length c0_3, .slice A0_4 l0_4.length c0_4, .slice A0_5 l0_5.length c0_5, .int .i64 a0_6] 31 (0, 0)) (qk BK123.out) hb); have n1_ := Aside0.mk (below_step (qb1 HB.out GE123.out) hb); clear BK123; clear HB; have BK123 := n0_; have HB := n1_; clear n0_ n1_; (try clear hb); (try clear hb2); (try clear hk); (try clear hi)))
  go_ret
  exact ⟨qe, qb1 HB.out GE123.out⟩
 ·rw [if_neg c4] at H
  have c4b0 : decide (t124 < 0) = false := decide_eq_false c4
  clear c4
  replace H := Option.bind_eq_some_iff.mp H
  obtain ⟨t125, A80, H⟩ := H
  replace H : (if t125 < 0 then (some (-1)) else ((laws_szDepS.f k l0_5 t125).bind fun t126 => (if t126 < 0 then (some (-1)) else (some t126)))) = some r := H
  have A8 := Aside0.mk A80
  clear A80
  by_cases c9 : t125 < 0
  ·rw [if_pos c9] at H
   have c9b0 : decide (t125 < 0) = true := decide_eq_true c9
   clear c9
   obtain rfl := Option.some.inj H
   go_enter Try.func4, Try.ntmps4
   go_wp2_with (first | ((with_reducible refine gate_dst (N := 2) rfl ?_); refine box_event ?hg (N := 2) ?hd (cs := #[.slice A0_0 l0_0.length c0_0, .slice A0_1 l0_1.length c0_1, .slice A0_2 l0_2.length c0_2, .slice A0_3 l0_3.length c0_3, .slice A0_4 l0_4.length c0_4, .slice A0_5 l0_5.length c0_5, .int .i64 a0_6]) (t := 31) ?hr ?_; (case hd => rfl); (case hg => rfl); (case hr => first | (go_simp; done) | (go_simp; rfl)); intro gb123 hg w10 hbox hb; have n0_ := Aside0.mk (below_step (qb HB.out) hb); have n1_ := Aside0.mk (hbox); have n2_ := Aside0.mk ((by rw [hg]; exact (below_size (qb HB.out)) : w.heap.size ≤ gb123)); have n3_ := Aside0.mk ((by rw [hg]; exact (below_size (qb HB.out)) : w.heap.size ≤ gb123)); clear HB; have HB := n0_; have BK123 := n1_; have GW123 := n2_; have GE123 := n3_; clear n0_ n1_ n2_ n3_; clear hb hbox hg; have hcz11_0 : w10.cell? ⟨gb123, 0, none⟩ = some (.slice A0_0 l0_0.length c0_0) := (blk_cell BK123.out 0).trans rfl; have hcz11_1 : w10.cell? ⟨gb123, 1, none⟩ = some (.slice A0_1 l0_1.length c0_1) := (blk_cell BK123.out 1).trans rfl; have hcz11_2 : w10.cell? ⟨gb123, 2, none⟩ = some (.slice A0_2 l0_2.length c0_2) := (blk_cell BK123.out 2).trans rfl; have hcz11_3 : w10.cell? ⟨gb123, 3, none⟩ = some (.slice A0_3 l0_3.length c0_3) := (blk_cell BK123.out 3).trans rfl; have hcz11_4 : w10.cell? ⟨gb123, 4, none⟩ = some (.slice A0_4 l0_4.length c0_4) := (blk_cell BK123.out 4).trans rfl; have hcz11_5 : w10.cell? ⟨gb123, 5, none⟩ = some (.slice A0_5 l0_5.length c0_5) := (blk_cell BK123.out 5).trans rfl; have hcz11_6 : w10.cell? ⟨gb123, 6, none⟩ = some (.int .i64 a0_6) := (blk_cell BK123.out 6).trans rfl; have hfz11_0 := blk_frozen BK123.out 0; have hfz11_1 := blk_frozen BK123.out 1; have hfz11_2 := blk_frozen BK123.out 2; have hfz11_3 := blk_frozen BK123.out 3; have hfz11_4 := blk_frozen BK123.out 4; have hfz11_5 := blk_frozen BK123.out 5; have hfz11_6 := blk_frozen BK123.out 6) | ((with_reducible refine gate_callee (f := 9) rfl ?_); refine goesL_ (some 8) rfl rfl Try.func9 (by kernel_rfl) rfl #[.agg #[.slice A0_0 l0_0.length c0_0, .slice A0_1 l0_1.length c0_1, .slice A0_2 l0_2.length c0_2, .slice A0_3 l0_3.length c0_3], .int .i64 a1] rfl qm ?_; (with_reducible refine (laws_szDisk.calls k _ _ l0_0 _ _ l0_1 _ _ l0_2 _ _ l0_3 a1 t124 _ ?side1 ?side2 ?side3 ?side4 ?side5 ?side6 ?side7 ?side8 A3.out).mono ?_); (case side1 => repeat (first | exact (Kd.C_below HR0_0.out HB.out) | (with_reducible refine Kd.C_alloc ?_ _) | (with_reducible refine Kd.C_drewN ?_ _) | (with_reducible refine Kd.C_drew ?_))); (case side2 => exact HC0_0.out); (case side3 => repeat (first | exact (Kd.C_below HR0_1.out HB.out) | (with_reducible refine Kd.C_alloc ?_ _) | (with_reducible refine Kd.C_drewN ?_ _) | (with_reducible refine Kd.C_drew ?_))); (case side4 => exact HC0_1.out); (case side5 => repeat (first | exact (Kd.C_below HR0_2.out HB.out) | (with_reducible refine Kd.C_alloc ?_ _) | (with_reducible refine Kd.C_drewN ?_ _) | (with_reducible refine Kd.C_drew ?_))); (case side6 => exact HC0_2.out); (case side7 => repeat (first | exact (Kd.C_below HR0_3.out HB.out) | (with_reducible refine Kd.C_alloc ?_ _) | (with_reducible refine Kd.C_drewN ?_ _) | (with_reducible refine Kd.C_drew ?_))); (case side8 => exact HC0_3.out); rintro e w12 ⟨rfl, hb⟩; refine ⟨_, rfl, ?_⟩; have n0_ := Aside0.mk (blk_below (g := gb123) (o := .cells #[.slice A0_0 l0_0.length c0_0, .slice A0_1 l0_1.length c0_1, .slice A0_2 l0_2.length c0_2, .slice A0_3 l0_3.length c0_3, .slice A0_4 l0_4.length c0_4, .slice A0_5 l0_5.length c0_5, .int .i64 a0_6] 31 (0, 0)) (qk BK123.out) hb); have n1_ := Aside0.mk (below_step (qb1 HB.out GE123.out) hb); clear BK123; clear HB; have BK123 := n0_; have HB := n1_; clear n0_ n1_; (try clear hb); (try clear hb2); (try clear hk); (try clear hi); have hcz13_0 : w12.cell? ⟨gb123, 0, none⟩ = some (.slice A0_0 l0_0.length c0_0) := (blk_cell BK123.out 0).trans rfl; have hcz13_1 : w12.cell? ⟨gb123, 1, none⟩ = some (.slice A0_1 l0_1.length c0_1) := (blk_cell BK123.out 1).trans rfl; have hcz13_2 : w12.cell? ⟨gb123, 2, none⟩ = some (.slice A0_2 l0_2.length c0_2) := (blk_cell BK123.out 2).trans rfl; have hcz13_3 : w12.cell? ⟨gb123, 3, none⟩ = some (.slice A0_3 l0_3.length c0_3) := (blk_cell BK123.out 3).trans rfl; have hcz13_4 : w12.cell? ⟨gb123, 4, none⟩ = some (.slice A0_4 l0_4.length c0_4) := (blk_cell BK123.out 4).trans rfl; have hcz13_5 : w12.cell? ⟨gb123, 5, none⟩ = some (.slice A0_5 l0_5.length c0_5) := (blk_cell BK123.out 5).trans rfl; have hcz13_6 : w12.cell? ⟨gb123, 6, none⟩ = some (.int .i64 a0_6) := (blk_cell BK123.out 6).trans rfl; have hfz13_0 := blk_frozen BK123.out 0; have hfz13_1 := blk_frozen BK123.out 1; have hfz13_2 := blk_frozen BK123.out 2; have hfz13_3 := blk_frozen BK123.out 3; have hfz13_4 := blk_frozen BK123.out 4; have hfz13_5 := blk_frozen BK123.out 5; have hfz13_6 := blk_frozen BK123.out 6) | ((with_reducible refine gate_callee (f := 10) rfl ?_); refine goesL_ (some 14) rfl rfl Try.func10 (by kernel_rfl) rfl #[.slice A0_4 l0_4.length c0_4, .int .i64 t124] rfl qm ?_; (with_reducible refine (laws_szBoolS.calls _ _ l0_4 t124 t125 _ ?side1 ?side2 A8.out).mono ?_); (case side1 => repeat (first | exact (Kd.C_below HR0_4.out HB.out) | (with_reducible refine Kd.C_alloc ?_ _) | (with_reducible refine Kd.C_drewN ?_ _) | (with_reducible refine Kd.C_drew ?_))); (case side2 => exact HC0_4.out); rintro e w' ⟨rfl, ⟨nd, rfl⟩⟩; refine ⟨_, rfl, ?_⟩))
   go_ret
   exact ⟨qe, qb1 HB.out GE123.out⟩
  ·rw [if_neg c9] at H
   have c9b0 : decide (t125 < 0) = false := decide_eq_false c9
   clear c9
   replace H := Option.bind_eq_some_iff.mp H
   obtain ⟨t126, A140, H⟩ := H
   replace H : (if t126 < 0 then (some (-1)) else (some t126)) = some r := H
   have A14 := Aside0.mk A140
   clear A140
   by_cases c15 : t126 < 0
   ·rw [if_pos c15] at H
    have c15b0 : decide (t126 < 0) = true := decide_eq_true c15
    clear c15
    obtain rfl := Option.some.inj H
    go_enter Try.func4, Try.ntmps4
    go_wp2_with (first | ((with_reducible refine gate_dst (N := 2) rfl ?_); refine box_event ?hg (N := 2) ?hd (cs := #[.slice A0_0 l0_0.length c0_0, .slice A0_1 l0_1.length c0_1, .slice A0_2 l0_2.length c0_2, .slice A0_3 l0_3.length c0_3, .slice A0_4 l0_4.length c0_4, .slice A0_5 l0_5.length c0_5, .int .i64 a0_6]) (t := 31) ?hr ?_; (case hd => rfl); (case hg => rfl); (case hr => first | (go_simp; done) | (go_simp; rfl)); intro gb123 hg w16 hbox hb; have n0_ := Aside0.mk (below_step (qb HB.out) hb); have n1_ := Aside0.mk (hbox); have n2_ := Aside0.mk ((by rw [hg]; exact (below_size (qb HB.out)) : w.heap.size ≤ gb123)); have n3_ := Aside0.mk ((by rw [hg]; exact (below_size (qb HB.out)) : w.heap.size ≤ gb123)); clear HB; have HB := n0_; have BK123 := n1_; have GW123 := n2_; have GE123 := n3_; clear n0_ n1_ n2_ n3_; clear hb hbox hg; have hcz17_0 : w16.cell? ⟨gb123, 0, none⟩ = some (.slice A0_0 l0_0.length c0_0) := (blk_cell BK123.out 0).trans rfl; have hcz17_1 : w16.cell? ⟨gb123, 1, none⟩ = some (.slice A0_1 l0_1.length c0_1) := (blk_cell BK123.out 1).trans rfl; have hcz17_2 : w16.cell? ⟨gb123, 2, none⟩ = some (.slice A0_2 l0_2.length c0_2) := (blk_cell BK123.out 2).trans rfl; have hcz17_3 : w16.cell? ⟨gb123, 3, none⟩ = some (.slice A0_3 l0_3.length c0_3) := (blk_cell BK123.out 3).trans rfl; have hcz17_4 : w16.cell? ⟨gb123, 4, none⟩ = some (.slice A0_4 l0_4.length c0_4) := (blk_cell BK123.out 4).trans rfl; have hcz17_5 : w16.cell? ⟨gb123, 5, none⟩ = some (.slice A0_5 l0_5.length c0_5) := (blk_cell BK123.out 5).trans rfl; have hcz17_6 : w16.cell? ⟨gb123, 6, none⟩ = some (.int .i64 a0_6) := (blk_cell BK123.out 6).trans rfl; have hfz17_0 := blk_frozen BK123.out 0; have hfz17_1 := blk_frozen BK123.out 1; have hfz17_2 := blk_frozen BK123.out 2; have hfz17_3 := blk_frozen BK123.out 3; have hfz17_4 := blk_frozen BK123.out 4; have hfz17_5 := blk_frozen BK123.out 5; have hfz17_6 := blk_frozen BK123.out 6) | ((with_reducible refine gate_callee (f := 9) rfl ?_); refine goesL_ (some 8) rfl rfl Try.func9 (by kernel_rfl) rfl #[.agg #[.slice A0_0 l0_0.length c0_0, .slice A0_1 l0_1.length c0_1, .slice A0_2 l0_2.length c0_2, .slice A0_3 l0_3.length c0_3], .int .i64 a1] rfl qm ?_; (with_reducible refine (laws_szDisk.calls k _ _ l0_0 _ _ l0_1 _ _ l0_2 _ _ l0_3 a1 t124 _ ?side1 ?side2 ?side3 ?side4 ?side5 ?side6 ?side7 ?side8 A3.out).mono ?_); (case side1 => repeat (first | exact (Kd.C_below HR0_0.out HB.out) | (with_reducible refine Kd.C_alloc ?_ _) | (with_reducible refine Kd.C_drewN ?_ _) | (with_reducible refine Kd.C_drew ?_))); (case side2 => exact HC0_0.out); (case side3 => repeat (first | exact (Kd.C_below HR0_1.out HB.out) | (with_reducible refine Kd.C_alloc ?_ _) | (with_reducible refine Kd.C_drewN ?_ _) | (with_reducible refine Kd.C_drew ?_))); (case side4 => exact HC0_1.out); (case side5 => repeat (first | exact (Kd.C_below HR0_2.out HB.out) | (with_reducible refine Kd.C_alloc ?_ _) | (with_reducible refine Kd.C_drewN ?_ _) | (with_reducible refine Kd.C_drew ?_))); (case side6 => exact HC0_2.out); (case side7 => repeat (first | exact (Kd.C_below HR0_3.out HB.out) | (with_reducible refine Kd.C_alloc ?_ _) | (with_reducible refine Kd.C_drewN ?_ _) | (with_reducible refine Kd.C_drew ?_))); (case side8 => exact HC0_3.out); rintro e w18 ⟨rfl, hb⟩; refine ⟨_, rfl, ?_⟩; have n0_ := Aside0.mk (blk_below (g := gb123) (o := .cells #[.slice A0_0 l0_0.length c0_0, .slice A0_1 l0_1.length c0_1, .slice A0_2 l0_2.length c0_2, .slice A0_3 l0_3.length c0_3, .slice A0_4 l0_4.length c0_4, .slice A0_5 l0_5.length c0_5, .int .i64 a0_6] 31 (0, 0)) (qk BK123.out) hb); have n1_ := Aside0.mk (below_step (qb1 HB.out GE123.out) hb); clear BK123; clear HB; have BK123 := n0_; have HB := n1_; clear n0_ n1_; (try clear hb); (try clear hb2); (try clear hk); (try clear hi); have hcz19_0 : w18.cell? ⟨gb123, 0, none⟩ = some (.slice A0_0 l0_0.length c0_0) := (blk_cell BK123.out 0).trans rfl; have hcz19_1 : w18.cell? ⟨gb123, 1, none⟩ = some (.slice A0_1 l0_1.length c0_1) := (blk_cell BK123.out 1).trans rfl; have hcz19_2 : w18.cell? ⟨gb123, 2, none⟩ = some (.slice A0_2 l0_2.length c0_2) := (blk_cell BK123.out 2).trans rfl; have hcz19_3 : w18.cell? ⟨gb123, 3, none⟩ = some (.slice A0_3 l0_3.length c0_3) := (blk_cell BK123.out 3).trans rfl; have hcz19_4 : w18.cell? ⟨gb123, 4, none⟩ = some (.slice A0_4 l0_4.length c0_4) := (blk_cell BK123.out 4).trans rfl; have hcz19_5 : w18.cell? ⟨gb123, 5, none⟩ = some (.slice A0_5 l0_5.length c0_5) := (blk_cell BK123.out 5).trans rfl; have hcz19_6 : w18.cell? ⟨gb123, 6, none⟩ = some (.int .i64 a0_6) := (blk_cell BK123.out 6).trans rfl; have hfz19_0 := blk_frozen BK123.out 0; have hfz19_1 := blk_frozen BK123.out 1; have hfz19_2 := blk_frozen BK123.out 2; have hfz19_3 := blk_frozen BK123.out 3; have hfz19_4 := blk_frozen BK123.out 4; have hfz19_5 := blk_frozen BK123.out 5; have hfz19_6 := blk_frozen BK123.out 6) | ((with_reducible refine gate_callee (f := 10) rfl ?_); refine goesL_ (some 14) rfl rfl Try.func10 (by kernel_rfl) rfl #[.slice A0_4 l0_4.length c0_4, .int .i64 t124] rfl qm ?_; (with_reducible refine (laws_szBoolS.calls _ _ l0_4 t124 t125 _ ?side1 ?side2 A8.out).mono ?_); (case side1 => repeat (first | exact (Kd.C_below HR0_4.out HB.out) | (with_reducible refine Kd.C_alloc ?_ _) | (with_reducible refine Kd.C_drewN ?_ _) | (with_reducible refine Kd.C_drew ?_))); (case side2 => exact HC0_4.out); rintro e w' ⟨rfl, ⟨nd, rfl⟩⟩; refine ⟨_, rfl, ?_⟩) | ((with_reducible refine gate_callee (f := 11) rfl ?_); refine goesL_ (some 20) rfl rfl Try.func11 (by kernel_rfl) rfl #[.slice A0_5 l0_5.length c0_5, .int .i64 t125] rfl qm ?_; (with_reducible refine (laws_szDepS.calls k _ _ l0_5 t125 t126 _ ?side1 ?side2 A14.out).mono ?_); (case side1 => repeat (first | exact (Kd.C_below HR0_5.out (qb1 HB.out GE123.out)) | (with_reducible refine Kd.C_alloc ?_ _) | (with_reducible refine Kd.C_drewN ?_ _) | (with_reducible refine Kd.C_drew ?_))); (case side2 => exact HC0_5.out); rintro e w20 ⟨rfl, hb⟩; refine ⟨_, rfl, ?_⟩; have n0_ := Aside0.mk (blk_below (g := gb123) (o := .cells #[.slice A0_0 l0_0.length c0_0, .slice A0_1 l0_1.length c0_1, .slice A0_2 l0_2.length c0_2, .slice A0_3 l0_3.length c0_3, .slice A0_4 l0_4.length c0_4, .slice A0_5 l0_5.length c0_5, .int .i64 a0_6] 31 (0, 0)) (qk BK123.out) hb); have n1_ := Aside0.mk (below_step (qb1 HB.out GE123.out) hb); clear BK123; clear HB; have BK123 := n0_; have HB := n1_; clear n0_ n1_; (try clear hb); (try clear hb2); (try clear hk); (try clear hi)))
    go_ret
    exact ⟨qe, qb1 HB.out GE123.out⟩
   ·rw [if_neg c15] at H
    have c15b0 : decide (t126 < 0) = false := decide_eq_false c15
    clear c15
    obtain rfl := Option.some.inj H
    go_enter Try.func4, Try.ntmps4
    go_wp2_with (first | ((with_reducible refine gate_dst (N := 2) rfl ?_); refine box_event ?hg (N := 2) ?hd (cs := #[.slice A0_0 l0_0.length c0_0, .slice A0_1 l0_1.length c0_1, .slice A0_2 l0_2.length c0_2, .slice A0_3 l0_3.length c0_3, .slice A0_4 l0_4.length c0_4, .slice A0_5 l0_5.length c0_5, .int .i64 a0_6]) (t := 31) ?hr ?_; (case hd => rfl); (case hg => rfl); (case hr => first | (go_simp; done) | (go_simp; rfl)); intro gb123 hg w21 hbox hb; have n0_ := Aside0.mk (below_step (qb HB.out) hb); have n1_ := Aside0.mk (hbox); have n2_ := Aside0.mk ((by rw [hg]; exact (below_size (qb HB.out)) : w.heap.size ≤ gb123)); have n3_ := Aside0.mk ((by rw [hg]; exact (below_size (qb HB.out)) : w.heap.size ≤ gb123)); clear HB; have HB := n0_; have BK123 := n1_; have GW123 := n2_; have GE123 := n3_; clear n0_ n1_ n2_ n3_; clear hb hbox hg; have hcz22_0 : w21.cell? ⟨gb123, 0, none⟩ = some (.slice A0_0 l0_0.length c0_0) := (blk_cell BK123.out 0).trans rfl; have hcz22_1 : w21.cell? ⟨gb123, 1, none⟩ = some (.slice A0_1 l0_1.length c0_1) := (blk_cell BK123.out 1).trans rfl; have hcz22_2 : w21.cell? ⟨gb123, 2, none⟩ = some (.slice A0_2 l0_2.length c0_2) := (blk_cell BK123.out 2).trans rfl; have hcz22_3 : w21.cell? ⟨gb123, 3, none⟩ = some (.slice A0_3 l0_3.length c0_3) := (blk_cell BK123.out 3).trans rfl; have hcz22_4 : w21.cell? ⟨gb123, 4, none⟩ = some (.slice A0_4 l0_4.length c0_4) := (blk_cell BK123.out 4).trans rfl; have hcz22_5 : w21.cell? ⟨gb123, 5, none⟩ = some (.slice A0_5 l0_5.length c0_5) := (blk_cell BK123.out 5).trans rfl; have hcz22_6 : w21.cell? ⟨gb123, 6, none⟩ = some (.int .i64 a0_6) := (blk_cell BK123.out 6).trans rfl; have hfz22_0 := blk_frozen BK123.out 0; have hfz22_1 := blk_frozen BK123.out 1; have hfz22_2 := blk_frozen BK123.out 2; have hfz22_3 := blk_frozen BK123.out 3; have hfz22_4 := blk_frozen BK123.out 4; have hfz22_5 := blk_frozen BK123.out 5; have hfz22_6 := blk_frozen BK123.out 6) | ((with_reducible refine gate_callee (f := 9) rfl ?_); refine goesL_ (some 8) rfl rfl Try.func9 (by kernel_rfl) rfl #[.agg #[.slice A0_0 l0_0.length c0_0, .slice A0_1 l0_1.length c0_1, .slice A0_2 l0_2.length c0_2, .slice A0_3 l0_3.length c0_3], .int .i64 a1] rfl qm ?_; (with_reducible refine (laws_szDisk.calls k _ _ l0_0 _ _ l0_1 _ _ l0_2 _ _ l0_3 a1 t124 _ ?side1 ?side2 ?side3 ?side4 ?side5 ?side6 ?side7 ?side8 A3.out).mono ?_); (case side1 => repeat (first | exact (Kd.C_below HR0_0.out HB.out) | (with_reducible refine Kd.C_alloc ?_ _) | (with_reducible refine Kd.C_drewN ?_ _) | (with_reducible refine Kd.C_drew ?_))); (case side2 => exact HC0_0.out); (case side3 => repeat (first | exact (Kd.C_below HR0_1.out HB.out) | (with_reducible refine Kd.C_alloc ?_ _) | (with_reducible refine Kd.C_drewN ?_ _) | (with_reducible refine Kd.C_drew ?_))); (case side4 => exact HC0_1.out); (case side5 => repeat (first | exact (Kd.C_below HR0_2.out HB.out) | (with_reducible refine Kd.C_alloc ?_ _) | (with_reducible refine Kd.C_drewN ?_ _) | (with_reducible refine Kd.C_drew ?_))); (case side6 => exact HC0_2.out); (case side7 => repeat (first | exact (Kd.C_below HR0_3.out HB.out) | (with_reducible refine Kd.C_alloc ?_ _) | (with_reducible refine Kd.C_drewN ?_ _) | (with_reducible refine Kd.C_drew ?_))); (case side8 => exact HC0_3.out); rintro e w23 ⟨rfl, hb⟩; refine ⟨_, rfl, ?_⟩; have n0_ := Aside0.mk (blk_below (g := gb123) (o := .cells #[.slice A0_0 l0_0.length c0_0, .slice A0_1 l0_1.length c0_1, .slice A0_2 l0_2.length c0_2, .slice A0_3 l0_3.length c0_3, .slice A0_4 l0_4.length c0_4, .slice A0_5 l0_5.length c0_5, .int .i64 a0_6] 31 (0, 0)) (qk BK123.out) hb); have n1_ := Aside0.mk (below_step (qb1 HB.out GE123.out) hb); clear BK123; clear HB; have BK123 := n0_; have HB := n1_; clear n0_ n1_; (try clear hb); (try clear hb2); (try clear hk); (try clear hi); have hcz24_0 : w23.cell? ⟨gb123, 0, none⟩ = some (.slice A0_0 l0_0.length c0_0) := (blk_cell BK123.out 0).trans rfl; have hcz24_1 : w23.cell? ⟨gb123, 1, none⟩ = some (.slice A0_1 l0_1.length c0_1) := (blk_cell BK123.out 1).trans rfl; have hcz24_2 : w23.cell? ⟨gb123, 2, none⟩ = some (.slice A0_2 l0_2.length c0_2) := (blk_cell BK123.out 2).trans rfl; have hcz24_3 : w23.cell? ⟨gb123, 3, none⟩ = some (.slice A0_3 l0_3.length c0_3) := (blk_cell BK123.out 3).trans rfl; have hcz24_4 : w23.cell? ⟨gb123, 4, none⟩ = some (.slice A0_4 l0_4.length c0_4) := (blk_cell BK123.out 4).trans rfl; have hcz24_5 : w23.cell? ⟨gb123, 5, none⟩ = some (.slice A0_5 l0_5.length c0_5) := (blk_cell BK123.out 5).trans rfl; have hcz24_6 : w23.cell? ⟨gb123, 6, none⟩ = some (.int .i64 a0_6) := (blk_cell BK123.out 6).trans rfl; have hfz24_0 := blk_frozen BK123.out 0; have hfz24_1 := blk_frozen BK123.out 1; have hfz24_2 := blk_frozen BK123.out 2; have hfz24_3 := blk_frozen BK123.out 3; have hfz24_4 := blk_frozen BK123.out 4; have hfz24_5 := blk_frozen BK123.out 5; have hfz24_6 := blk_frozen BK123.out 6) | ((with_reducible refine gate_callee (f := 10) rfl ?_); refine goesL_ (some 14) rfl rfl Try.func10 (by kernel_rfl) rfl #[.slice A0_4 l0_4.length c0_4, .int .i64 t124] rfl qm ?_; (with_reducible refine (laws_szBoolS.calls _ _ l0_4 t124 t125 _ ?side1 ?side2 A8.out).mono ?_); (case side1 => repeat (first | exact (Kd.C_below HR0_4.out HB.out) | (with_reducible refine Kd.C_alloc ?_ _) | (with_reducible refine Kd.C_drewN ?_ _) | (with_reducible refine Kd.C_drew ?_))); (case side2 => exact HC0_4.out); rintro e w' ⟨rfl, ⟨nd, rfl⟩⟩; refine ⟨_, rfl, ?_⟩) | ((with_reducible refine gate_callee (f := 11) rfl ?_); refine goesL_ (some 20) rfl rfl Try.func11 (by kernel_rfl) rfl #[.slice A0_5 l0_5.length c0_5, .int .i64 t125] rfl qm ?_; (with_reducible refine (laws_szDepS.calls k _ _ l0_5 t125 t126 _ ?side1 ?side2 A14.out).mono ?_); (case side1 => repeat (first | exact (Kd.C_below HR0_5.out (qb1 HB.out GE123.out)) | (with_reducible refine Kd.C_alloc ?_ _) | (with_reducible refine Kd.C_drewN ?_ _) | (with_reducible refine Kd.C_drew ?_))); (case side2 => exact HC0_5.out); rintro e w25 ⟨rfl, hb⟩; refine ⟨_, rfl, ?_⟩; have n0_ := Aside0.mk (blk_below (g := gb123) (o := .cells #[.slice A0_0 l0_0.length c0_0, .slice A0_1 l0_1.length c0_1, .slice A0_2 l0_2.length c0_2, .slice A0_3 l0_3.length c0_3, .slice A0_4 l0_4.length c0_4, .slice A0_5 l0_5.length c0_5, .int .i64 a0_6] 31 (0, 0)) (qk BK123.out) hb); have n1_ := Aside0.mk (below_step (qb1 HB.out GE123.out) hb); clear BK123; clear HB; have BK123 := n0_; have HB := n1_; clear n0_ n1_; (try clear hb); (try clear hb2); (try clear hk); (try clear hi)))
    go_ret
    exact ⟨qe, qb1 HB.out GE123.out⟩

/-! ### spec_l08Name: function 12 -/
def spec_l08Name.f (a0_0 : Int) (a0_1 : Int) (a0_2 : Int) (a0_3 : Int) (a0_4 : Int) (a0_5 : Int) (a0_6 : ByteArray) (a0_7 : Bool) (a0_8 : Bool) (a0_9 : Int) (l0_10 : List Int) : Option (Bool) := if a0_1 = 2 then (some true) else (if a0_1 = 3 then (some true) else (some (a0_1 == 4)))
set_option maxHeartbeats 8000000 in
set_option maxRecDepth 100000 in
theorem spec_l08Name.calls (a0_0 : Int) (a0_1 : Int) (a0_2 : Int) (a0_3 : Int) (a0_4 : Int) (a0_5 : Int) (a0_6 : ByteArray) (a0_7 : Bool) (a0_8 : Bool) (a0_9 : Int) (A0_10 : Option Addr) (c0_10 : Nat) (l0_10 : List Int) (r : Bool) (w : World) (hr0_10 : Kd.C (Kd.int .i64) w A0_10 l0_10.length l0_10) (hc0_10 : l0_10.length ≤ c0_10) (h : spec_l08Name.f a0_0 a0_1 a0_2 a0_3 a0_4 a0_5 a0_6 a0_7 a0_8 a0_9 l0_10 = some r) :
  Calls Try.prog 12 #[.agg #[.int .i64 a0_0, .int .i64 a0_1, .int .i64 a0_2, .int .i64 a0_3, .int .i64 a0_4, .int .i64 a0_5, .string a0_6, .bool a0_7, .bool a0_8, .int .i64 a0_9, .slice A0_10 l0_10.length c0_10]] w fun e w' => e = .returned (.bool r) ∧ Below w.heap.size w w' := by
 have hu50 := Try.underlying50
 have HR0_10 := Aside0.mk hr0_10
 have HC0_10 := Aside0.mk hc0_10
 clear hr0_10 hc0_10
 have HB := Aside0.mk (Below.refl w.heap.size w)
 have H : (if a0_1 = 2 then (some true) else (if a0_1 = 3 then (some true) else (some (a0_1 == 4)))) = some r := h
 clear h
 by_cases c2 : a0_1 = 2
 ·rw [if_pos c2] at H
  have c2b0 : (a0_1 == 2) = true := beq_iff_eq.mpr c2
  have c2b1 : (a0_1 != 2) = false := bne_eq_false_iff_eq.mpr c2
  clear c2
  obtain rfl := Option.some.inj H
  go_enter Try.func12, Try.ntmps12
  go_wp2_with (first | ((with_reducible refine gate_dst (N := 1) rfl ?_); refine box_event ?hg (N := 1) ?hd (cs := #[.int .i64 a0_0, .int .i64 a0_1, .int .i64 a0_2, .int .i64 a0_3, .int .i64 a0_4, .int .i64 a0_5, .string a0_6, .bool a0_7, .bool a0_8, .int .i64 a0_9, .slice A0_10 l0_10.length c0_10]) (t := 50) ?hr ?_; (case hd => rfl); (case hg => rfl); (case hr => first | (go_simp; done) | (go_simp; rfl)); intro gb127 hg w3 hbox hb; have n0_ := Aside0.mk (below_step (qb HB.out) hb); have n1_ := Aside0.mk (hbox); have n2_ := Aside0.mk ((by rw [hg]; exact (below_size (qb HB.out)) : w.heap.size ≤ gb127)); have n3_ := Aside0.mk ((by rw [hg]; exact (below_size (qb HB.out)) : w.heap.size ≤ gb127)); clear HB; have HB := n0_; have BK127 := n1_; have GW127 := n2_; have GE127 := n3_; clear n0_ n1_ n2_ n3_; clear hb hbox hg; have hcz4_0 : w3.cell? ⟨gb127, 0, none⟩ = some (.int .i64 a0_0) := (blk_cell BK127.out 0).trans rfl; have hcz4_1 : w3.cell? ⟨gb127, 1, none⟩ = some (.int .i64 a0_1) := (blk_cell BK127.out 1).trans rfl; have hcz4_2 : w3.cell? ⟨gb127, 2, none⟩ = some (.int .i64 a0_2) := (blk_cell BK127.out 2).trans rfl; have hcz4_3 : w3.cell? ⟨gb127, 3, none⟩ = some (.int .i64 a0_3) := (blk_cell BK127.out 3).trans rfl; have hcz4_4 : w3.cell? ⟨gb127, 4, none⟩ = some (.int .i64 a0_4) := (blk_cell BK127.out 4).trans rfl; have hcz4_5 : w3.cell? ⟨gb127, 5, none⟩ = some (.int .i64 a0_5) := (blk_cell BK127.out 5).trans rfl; have hcz4_6 : w3.cell? ⟨gb127, 6, none⟩ = some (.string a0_6) := (blk_cell BK127.out 6).trans rfl; have hcz4_7 : w3.cell? ⟨gb127, 7, none⟩ = some (.bool a0_7) := (blk_cell BK127.out 7).trans rfl; have hcz4_8 : w3.cell? ⟨gb127, 8, none⟩ = some (.bool a0_8) := (blk_cell BK127.out 8).trans rfl; have hcz4_9 : w3.cell? ⟨gb127, 9, none⟩ = some (.int .i64 a0_9) := (blk_cell BK127.out 9).trans rfl; have hcz4_10 : w3.cell? ⟨gb127, 10, none⟩ = some (.slice A0_10 l0_10.length c0_10) := (blk_cell BK127.out 10).trans rfl; have hfz4_0 := blk_frozen BK127.out 0; have hfz4_1 := blk_frozen BK127.out 1; have hfz4_2 := blk_frozen BK127.out 2; have hfz4_3 := blk_frozen BK127.out 3; have hfz4_4 := blk_frozen BK127.out 4; have hfz4_5 := blk_frozen BK127.out 5; have hfz4_6 := blk_frozen BK127.out 6; have hfz4_7 := blk_frozen BK127.out 7; have hfz4_8 := blk_frozen BK127.out 8; have hfz4_9 := blk_frozen BK127.out 9; have hfz4_10 := blk_frozen BK127.out 10))
  go_ret
  exact ⟨qe, qb1 HB.out GE127.out⟩
 ·rw [if_neg c2] at H
  have c2b0 : (a0_1 == 2) = false := beq_eq_false_iff_ne.mpr c2
  have c2b1 : (a0_1 != 2) = true := bne_iff_ne.mpr c2
  by_cases c5 : a0_1 = 3
  ·rw [if_pos c5] at H
   have c5b0 : (a0_1 == 3) = true := beq_iff_eq.mpr c5
   have c5b1 : (a0_1 != 3) = false := bne_eq_false_iff_eq.mpr c5
   clear c5
   obtain rfl := Option.some.inj H
   go_enter Try.func12, Try.ntmps12
   go_wp2_with (first | ((with_reducible refine gate_dst (N := 1) rfl ?_); refine box_event ?hg (N := 1) ?hd (cs := #[.int .i64 a0_0, .int .i64 a0_1, .int .i64 a0_2, .int .i64 a0_3, .int .i64 a0_4, .int .i64 a0_5, .string a0_6, .bool a0_7, .bool a0_8, .int .i64 a0_9, .slice A0_10 l0_10.length c0_10]) (t := 50) ?hr ?_; (case hd => rfl); (case hg => rfl); (case hr => first | (go_simp; done) | (go_simp; rfl)); intro gb127 hg w6 hbox hb; have n0_ := Aside0.mk (below_step (qb HB.out) hb); have n1_ := Aside0.mk (hbox); have n2_ := Aside0.mk ((by rw [hg]; exact (below_size (qb HB.out)) : w.heap.size ≤ gb127)); have n3_ := Aside0.mk ((by rw [hg]; exact (below_size (qb HB.out)) : w.heap.size ≤ gb127)); clear HB; have HB := n0_; have BK127 := n1_; have GW127 := n2_; have GE127 := n3_; clear n0_ n1_ n2_ n3_; clear hb hbox hg; have hcz7_0 : w6.cell? ⟨gb127, 0, none⟩ = some (.int .i64 a0_0) := (blk_cell BK127.out 0).trans rfl; have hcz7_1 : w6.cell? ⟨gb127, 1, none⟩ = some (.int .i64 a0_1) := (blk_cell BK127.out 1).trans rfl; have hcz7_2 : w6.cell? ⟨gb127, 2, none⟩ = some (.int .i64 a0_2) := (blk_cell BK127.out 2).trans rfl; have hcz7_3 : w6.cell? ⟨gb127, 3, none⟩ = some (.int .i64 a0_3) := (blk_cell BK127.out 3).trans rfl; have hcz7_4 : w6.cell? ⟨gb127, 4, none⟩ = some (.int .i64 a0_4) := (blk_cell BK127.out 4).trans rfl; have hcz7_5 : w6.cell? ⟨gb127, 5, none⟩ = some (.int .i64 a0_5) := (blk_cell BK127.out 5).trans rfl; have hcz7_6 : w6.cell? ⟨gb127, 6, none⟩ = some (.string a0_6) := (blk_cell BK127.out 6).trans rfl; have hcz7_7 : w6.cell? ⟨gb127, 7, none⟩ = some (.bool a0_7) := (blk_cell BK127.out 7).trans rfl; have hcz7_8 : w6.cell? ⟨gb127, 8, none⟩ = some (.bool a0_8) := (blk_cell BK127.out 8).trans rfl; have hcz7_9 : w6.cell? ⟨gb127, 9, none⟩ = some (.int .i64 a0_9) := (blk_cell BK127.out 9).trans rfl; have hcz7_10 : w6.cell? ⟨gb127, 10, none⟩ = some (.slice A0_10 l0_10.length c0_10) := (blk_cell BK127.out 10).trans rfl; have hfz7_0 := blk_frozen BK127.out 0; have hfz7_1 := blk_frozen BK127.out 1; have hfz7_2 := blk_frozen BK127.out 2; have hfz7_3 := blk_frozen BK127.out 3; have hfz7_4 := blk_frozen BK127.out 4; have hfz7_5 := blk_frozen BK127.out 5; have hfz7_6 := blk_frozen BK127.out 6; have hfz7_7 := blk_frozen BK127.out 7; have hfz7_8 := blk_frozen BK127.out 8; have hfz7_9 := blk_frozen BK127.out 9; have hfz7_10 := blk_frozen BK127.out 10))
   go_ret
   exact ⟨qe, qb1 HB.out GE127.out⟩
  ·rw [if_neg c5] at H
   have c5b0 : (a0_1 == 3) = false := beq_eq_false_iff_ne.mpr c5
   have c5b1 : (a0_1 != 3) = true := bne_iff_ne.mpr c5
   obtain rfl := Option.some.inj H
   go_enter Try.func12, Try.ntmps12
   go_wp2_with (first | ((with_reducible refine gate_dst (N := 1) rfl ?_); refine box_event ?hg (N := 1) ?hd (cs := #[.int .i64 a0_0, .int .i64 a0_1, .int .i64 a0_2, .int .i64 a0_3, .int .i64 a0_4, .int .i64 a0_5, .string a0_6, .bool a0_7, .bool a0_8, .int .i64 a0_9, .slice A0_10 l0_10.length c0_10]) (t := 50) ?hr ?_; (case hd => rfl); (case hg => rfl); (case hr => first | (go_simp; done) | (go_simp; rfl)); intro gb127 hg w8 hbox hb; have n0_ := Aside0.mk (below_step (qb HB.out) hb); have n1_ := Aside0.mk (hbox); have n2_ := Aside0.mk ((by rw [hg]; exact (below_size (qb HB.out)) : w.heap.size ≤ gb127)); have n3_ := Aside0.mk ((by rw [hg]; exact (below_size (qb HB.out)) : w.heap.size ≤ gb127)); clear HB; have HB := n0_; have BK127 := n1_; have GW127 := n2_; have GE127 := n3_; clear n0_ n1_ n2_ n3_; clear hb hbox hg; have hcz9_0 : w8.cell? ⟨gb127, 0, none⟩ = some (.int .i64 a0_0) := (blk_cell BK127.out 0).trans rfl; have hcz9_1 : w8.cell? ⟨gb127, 1, none⟩ = some (.int .i64 a0_1) := (blk_cell BK127.out 1).trans rfl; have hcz9_2 : w8.cell? ⟨gb127, 2, none⟩ = some (.int .i64 a0_2) := (blk_cell BK127.out 2).trans rfl; have hcz9_3 : w8.cell? ⟨gb127, 3, none⟩ = some (.int .i64 a0_3) := (blk_cell BK127.out 3).trans rfl; have hcz9_4 : w8.cell? ⟨gb127, 4, none⟩ = some (.int .i64 a0_4) := (blk_cell BK127.out 4).trans rfl; have hcz9_5 : w8.cell? ⟨gb127, 5, none⟩ = some (.int .i64 a0_5) := (blk_cell BK127.out 5).trans rfl; have hcz9_6 : w8.cell? ⟨gb127, 6, none⟩ = some (.string a0_6) := (blk_cell BK127.out 6).trans rfl; have hcz9_7 : w8.cell? ⟨gb127, 7, none⟩ = some (.bool a0_7) := (blk_cell BK127.out 7).trans rfl; have hcz9_8 : w8.cell? ⟨gb127, 8, none⟩ = some (.bool a0_8) := (blk_cell BK127.out 8).trans rfl; have hcz9_9 : w8.cell? ⟨gb127, 9, none⟩ = some (.int .i64 a0_9) := (blk_cell BK127.out 9).trans rfl; have hcz9_10 : w8.cell? ⟨gb127, 10, none⟩ = some (.slice A0_10 l0_10.length c0_10) := (blk_cell BK127.out 10).trans rfl; have hfz9_0 := blk_frozen BK127.out 0; have hfz9_1 := blk_frozen BK127.out 1; have hfz9_2 := blk_frozen BK127.out 2; have hfz9_3 := blk_frozen BK127.out 3; have hfz9_4 := blk_frozen BK127.out 4; have hfz9_5 := blk_frozen BK127.out 5; have hfz9_6 := blk_frozen BK127.out 6; have hfz9_7 := blk_frozen BK127.out 7; have hfz9_8 := blk_frozen BK127.out 8; have hfz9_9 := blk_frozen BK127.out 9; have hfz9_10 := blk_frozen BK127.out 10))
   go_ret
   exact ⟨qe, qb1 HB.out GE127.out⟩

/-! ### spec_DepAt: function 5 -/
def spec_DepAt.l0 : Nat → Int → Int → Int → List Bool → List Bool → List (S81) → List (S85) → List Bool → List (S50) → Int → Option (Int)
 | 0, _, _, _, _, _, _, _, _, _, _ => none
 | k + 1, x1, x2, x7, x129000, x129001, x129002, x129003, x129004, x129005, x129006 => if x7 < (x129005.length : Int) then (if 0 ≤ x7 then ((spec_l08Name.f ((rd_T50 x129005 x7).f0) ((rd_T50 x129005 x7).f1) ((rd_T50 x129005 x7).f2) ((rd_T50 x129005 x7).f3) ((rd_T50 x129005 x7).f4) ((rd_T50 x129005 x7).f5) ((rd_T50 x129005 x7).f6) ((rd_T50 x129005 x7).f7) ((rd_T50 x129005 x7).f8) ((rd_T50 x129005 x7).f9) ((rd_T50 x129005 x7).f10)).bind fun t131 => (if t131 = true then (if ((rd_T50 x129005 x7).f4) = x1 then (if ((rd_T50 x129005 x7).f5) = x2 then (some ((rd_T50 x129005 x7).f0)) else (spec_DepAt.l0 k x1 x2 (wrap64 (x7 + 1)) x129000 x129001 x129002 x129003 x129004 x129005 x129006)) else (spec_DepAt.l0 k x1 x2 (wrap64 (x7 + 1)) x129000 x129001 x129002 x129003 x129004 x129005 x129006)) else (spec_DepAt.l0 k x1 x2 (wrap64 (x7 + 1)) x129000 x129001 x129002 x129003 x129004 x129005 x129006))) else (none)) else (some 0)
def spec_DepAt.f (k : Nat) (l0_0 : List Bool) (l0_1 : List Bool) (l0_2 : List (S81)) (l0_3 : List (S85)) (l0_4 : List Bool) (l0_5 : List (S50)) (a0_6 : Int) (a1 : Int) (a2 : Int) : Option (Int) := spec_DepAt.l0 k a1 a2 0 l0_0 l0_1 l0_2 l0_3 l0_4 l0_5 a0_6
theorem spec_DepAt.mono_l : ∀ k, (∀ y0 y1 y2 y3 y4 y5 y6 y7 y8 y9, LeO (spec_DepAt.l0 k y0 y1 y2 y3 y4 y5 y6 y7 y8 y9) (spec_DepAt.l0 (k + 1) y0 y1 y2 y3 y4 y5 y6 y7 y8 y9))
 | 0 => fun _ _ _ _ _ _ _ _ _ _ r h => by simp [spec_DepAt.l0] at h
 | k + 1 => by
  have ih0 := spec_DepAt.mono_l k
  ·intro y0 y1 y2 y3 y4 y5 y6 y7 y8 y9
   unfold spec_DepAt.l0
   repeat' first
   | (with_reducible exact ih0 _ _ _ _ _ _ _ _ _ _)
   | with_reducible first | exact LeO.refl _ | exact LeO.none _ | refine LeO.ite ?_ ?_ | refine LeO.bind ?_ (fun _ => ?_)
   | exact ih0 _ _ _ _ _ _ _ _ _ _
   | exact LeO.none _
   | refine LeO.ite ?_ ?_
   | refine LeO.bind ?_ (fun _ => ?_)
theorem spec_DepAt.mono : ∀ a0 a1 a2 a3 a4 a5 a6 a7 a8 k, LeO (spec_DepAt.f k a0 a1 a2 a3 a4 a5 a6 a7 a8) (spec_DepAt.f (k + 1) a0 a1 a2 a3 a4 a5 a6 a7 a8) := by
 intro a0 a1 a2 a3 a4 a5 a6 a7 a8 k
 have ih0 := spec_DepAt.mono_l k
 unfold spec_DepAt.f
 repeat' first
   | (with_reducible exact ih0 _ _ _ _ _ _ _ _ _ _)
   | with_reducible first | exact LeO.refl _ | exact LeO.none _ | refine LeO.ite ?_ ?_ | refine LeO.bind ?_ (fun _ => ?_)
   | exact ih0 _ _ _ _ _ _ _ _ _ _
   | exact LeO.none _
   | refine LeO.ite ?_ ?_
   | refine LeO.bind ?_ (fun _ => ?_)
set_option maxHeartbeats 8000000 in
set_option maxRecDepth 100000 in
theorem spec_DepAt.calls (k : Nat) (A0_0 : Option Addr) (c0_0 : Nat) (l0_0 : List Bool) (A0_1 : Option Addr) (c0_1 : Nat) (l0_1 : List Bool) (A0_2 : Option Addr) (c0_2 : Nat) (l0_2 : List (S81)) (A0_3 : Option Addr) (c0_3 : Nat) (l0_3 : List (S85)) (A0_4 : Option Addr) (c0_4 : Nat) (l0_4 : List Bool) (A0_5 : Option Addr) (c0_5 : Nat) (l0_5 : List (S50)) (a0_6 : Int) (a1 : Int) (a2 : Int) (r : Int) (w : World) (hr0_0 : Kd.C Kd.bool w A0_0 l0_0.length l0_0) (hc0_0 : l0_0.length ≤ c0_0) (hr0_1 : Kd.C Kd.bool w A0_1 l0_1.length l0_1) (hc0_1 : l0_1.length ≤ c0_1) (hr0_2 : Kd.C k81 w A0_2 l0_2.length l0_2) (hc0_2 : l0_2.length ≤ c0_2) (hr0_3 : Kd.C k85 w A0_3 l0_3.length l0_3) (hc0_3 : l0_3.length ≤ c0_3) (hr0_4 : Kd.C Kd.bool w A0_4 l0_4.length l0_4) (hc0_4 : l0_4.length ≤ c0_4) (hr0_5 : Kd.C k50 w A0_5 l0_5.length l0_5) (hc0_5 : l0_5.length ≤ c0_5) (h : spec_DepAt.f k l0_0 l0_1 l0_2 l0_3 l0_4 l0_5 a0_6 a1 a2 = some r) :
  Calls Try.prog 5 #[.agg #[.slice A0_0 l0_0.length c0_0, .slice A0_1 l0_1.length c0_1, .slice A0_2 l0_2.length c0_2, .slice A0_3 l0_3.length c0_3, .slice A0_4 l0_4.length c0_4, .slice A0_5 l0_5.length c0_5, .int .i64 a0_6], .int .i64 a1, .int .i64 a2] w fun e w' => e = .returned (.int .i64 r) ∧ Below w.heap.size w w' := by
 have hu41 := Try.underlying41
 have hu50 := Try.underlying50
 have HR0_0 := Aside0.mk hr0_0
 have HC0_0 := Aside0.mk hc0_0
 clear hr0_0 hc0_0
 have HR0_1 := Aside0.mk hr0_1
 have HC0_1 := Aside0.mk hc0_1
 clear hr0_1 hc0_1
 have HR0_2 := Aside0.mk hr0_2
 have HC0_2 := Aside0.mk hc0_2
 clear hr0_2 hc0_2
 have HR0_3 := Aside0.mk hr0_3
 have HC0_3 := Aside0.mk hc0_3
 clear hr0_3 hc0_3
 have HR0_4 := Aside0.mk hr0_4
 have HC0_4 := Aside0.mk hc0_4
 clear hr0_4 hc0_4
 have HR0_5 := Aside0.mk hr0_5
 have HC0_5 := Aside0.mk hc0_5
 clear hr0_5 hc0_5
 have HB := Aside0.mk (Below.refl w.heap.size w)
 have H : (spec_DepAt.l0 k a1 a2 0 l0_0 l0_1 l0_2 l0_3 l0_4 l0_5 a0_6) = some r := h
 clear h
 have H' := Aside0.mk H
 clear H
 go_enter Try.func5, Try.ntmps5
 go_wp2_with (first | ((with_reducible refine gate_dst (N := 3) rfl ?_); refine box_event ?hg (N := 3) ?hd (cs := #[.slice A0_0 l0_0.length c0_0, .slice A0_1 l0_1.length c0_1, .slice A0_2 l0_2.length c0_2, .slice A0_3 l0_3.length c0_3, .slice A0_4 l0_4.length c0_4, .slice A0_5 l0_5.length c0_5, .int .i64 a0_6]) (t := 41) ?hr ?_; (case hd => rfl); (case hg => rfl); (case hr => first | (go_simp; done) | (go_simp; rfl)); intro gb128 hg w4 hbox hb; have n0_ := Aside0.mk (below_step (qb HB.out) hb); have n1_ := Aside0.mk (hbox); have n2_ := Aside0.mk ((by rw [hg]; exact (below_size (qb HB.out)) : w.heap.size ≤ gb128)); have n3_ := Aside0.mk ((by rw [hg]; exact (below_size (qb HB.out)) : w.heap.size ≤ gb128)); clear HB; have HB := n0_; have BK128 := n1_; have GW128 := n2_; have GE128 := n3_; clear n0_ n1_ n2_ n3_; clear hb hbox hg))
 go_loopg [7] k (fun kq v7 w' => ∃ (x7_1 : Int), v7 = .int .i64 x7_1 ∧ Aside0 (spec_DepAt.l0 kq a1 a2 x7_1 l0_0 l0_1 l0_2 l0_3 l0_4 l0_5 a0_6 = some r) ∧ Aside0 (kq ≤ k) ∧ Aside0 (w'.heap[gb128]? = some (.cells #[(.slice A0_0 l0_0.length c0_0), (.slice A0_1 l0_1.length c0_1), (.slice A0_2 l0_2.length c0_2), (.slice A0_3 l0_3.length c0_3), (.slice A0_4 l0_4.length c0_4), (.slice A0_5 l0_5.length c0_5), .int .i64 a0_6] 41 (0, 0))) ∧ Aside0 (Below w.heap.size w w'))
 case atStart => exact ⟨(0), qz, H', ⟨Nat.le_refl _⟩, ⟨qk BK128.out⟩, ⟨qb1 HB.out GE128.out⟩⟩
 case round =>
  clear H'
  try clear p2
  obtain ⟨x7_1, rfl, HA, HK1, BK128, HB⟩ := hrel
  cases gk with
  | zero => exact absurd HA.out (by simp [spec_DepAt.l0])
  | succ k1 =>
   have H := HA.out
   clear HA
   simp only [spec_DepAt.l0] at H
   by_cases c5 : x7_1 < (l0_5.length : Int)
   ·rw [if_pos c5] at H
    have c5b0 : decide (x7_1 < (l0_5.length : Int)) = true := decide_eq_true c5
    clear c5
    by_cases c6 : 0 ≤ x7_1
    ·rw [if_pos c6] at H
     have c6b0 : decide (0 ≤ x7_1) = true := decide_eq_true c6
     clear c6
     replace H := Option.bind_eq_some_iff.mp H
     obtain ⟨t131, A70, H⟩ := H
     replace H : (if t131 = true then (if ((rd_T50 l0_5 x7_1).f4) = a1 then (if ((rd_T50 l0_5 x7_1).f5) = a2 then (some ((rd_T50 l0_5 x7_1).f0)) else (spec_DepAt.l0 k1 a1 a2 (wrap64 (x7_1 + 1)) l0_0 l0_1 l0_2 l0_3 l0_4 l0_5 a0_6)) else (spec_DepAt.l0 k1 a1 a2 (wrap64 (x7_1 + 1)) l0_0 l0_1 l0_2 l0_3 l0_4 l0_5 a0_6)) else (spec_DepAt.l0 k1 a1 a2 (wrap64 (x7_1 + 1)) l0_0 l0_1 l0_2 l0_3 l0_4 l0_5 a0_6)) = some r := H
     have A7 := Aside0.mk A70
     clear A70
     by_cases c8 : t131 = true
     ·subst c8
      have H1 : (if ((rd_T50 l0_5 x7_1).f4) = a1 then (if ((rd_T50 l0_5 x7_1).f5) = a2 then (some ((rd_T50 l0_5 x7_1).f0)) else (spec_DepAt.l0 k1 a1 a2 (wrap64 (x7_1 + 1)) l0_0 l0_1 l0_2 l0_3 l0_4 l0_5 a0_6)) else (spec_DepAt.l0 k1 a1 a2 (wrap64 (x7_1 + 1)) l0_0 l0_1 l0_2 l0_3 l0_4 l0_5 a0_6)) = some r := by rw [if_pos rfl] at H; exact H
      clear H
      have H := H1
      clear H1
      by_cases c9 : ((rd_T50 l0_5 x7_1).f4) = a1
      ·rw [if_pos c9] at H
       have c9b0 : (((rd_T50 l0_5 x7_1).f4) == a1) = true := beq_iff_eq.mpr c9
       have c9b1 : (((rd_T50 l0_5 x7_1).f4) != a1) = false := bne_eq_false_iff_eq.mpr c9
       clear c9
       by_cases c10 : ((rd_T50 l0_5 x7_1).f5) = a2
       ·rw [if_pos c10] at H
        have c10b0 : (((rd_T50 l0_5 x7_1).f5) == a2) = true := beq_iff_eq.mpr c10
        have c10b1 : (((rd_T50 l0_5 x7_1).f5) != a2) = false := bne_eq_false_iff_eq.mpr c10
        clear c10
        obtain rfl := Option.some.inj H
        have hcz11_0 : wr.cell? ⟨gb128, 0, none⟩ = some (.slice A0_0 l0_0.length c0_0) := (blk_cell BK128.out 0).trans rfl
        have hcz11_1 : wr.cell? ⟨gb128, 1, none⟩ = some (.slice A0_1 l0_1.length c0_1) := (blk_cell BK128.out 1).trans rfl
        have hcz11_2 : wr.cell? ⟨gb128, 2, none⟩ = some (.slice A0_2 l0_2.length c0_2) := (blk_cell BK128.out 2).trans rfl
        have hcz11_3 : wr.cell? ⟨gb128, 3, none⟩ = some (.slice A0_3 l0_3.length c0_3) := (blk_cell BK128.out 3).trans rfl
        have hcz11_4 : wr.cell? ⟨gb128, 4, none⟩ = some (.slice A0_4 l0_4.length c0_4) := (blk_cell BK128.out 4).trans rfl
        have hcz11_5 : wr.cell? ⟨gb128, 5, none⟩ = some (.slice A0_5 l0_5.length c0_5) := (blk_cell BK128.out 5).trans rfl
        have hcz11_6 : wr.cell? ⟨gb128, 6, none⟩ = some (.int .i64 a0_6) := (blk_cell BK128.out 6).trans rfl
        have hfz11_0 := blk_frozen BK128.out 0
        have hfz11_1 := blk_frozen BK128.out 1
        have hfz11_2 := blk_frozen BK128.out 2
        have hfz11_3 := blk_frozen BK128.out 3
        have hfz11_4 := blk_frozen BK128.out 4
        have hfz11_5 := blk_frozen BK128.out 5
        have hfz11_6 := blk_frozen BK128.out 6
        have p129 : 0 ≤ (x7_1 : Int) := qo
        have q129 : x7_1 < (l0_5.length : Int) := qo
        obtain ⟨ad129, A129_10, c129_10, e129, hx129_0, hx129_1, hx129_2, hx129_3, hx129_4, hx129_5, hx129_6, hx129_7, hx129_8, hx129_9, hx129_10, hl129_10, hi129_10⟩ := at_T50 HR0_5.out x7_1 p129 q129
        cases e129
        replace hx129_0 := qc HB.out hx129_0
        replace hx129_1 := qc HB.out hx129_1
        replace hx129_2 := qc HB.out hx129_2
        replace hx129_3 := qc HB.out hx129_3
        replace hx129_4 := qc HB.out hx129_4
        replace hx129_5 := qc HB.out hx129_5
        replace hx129_6 := qc HB.out hx129_6
        replace hx129_7 := qc HB.out hx129_7
        replace hx129_8 := qc HB.out hx129_8
        replace hx129_9 := qc HB.out hx129_9
        replace hx129_10 := qc HB.out hx129_10
        have HR129_10 := Aside0.mk hi129_10
        have HC129_10 := Aside0.mk hl129_10
        clear hi129_10 hl129_10
        replace p129 := eq_true p129
        replace q129 := eq_true q129
        go_wp2_with (first | ((with_reducible refine gate_dst (N := 8) rfl ?_); refine box_event ?hg (N := 8) ?hd (cs := #[.int .i64 0, .int .i64 0, .int .i64 0, .int .i64 0, .int .i64 0, .int .i64 0, .string (⟨#[]⟩ : ByteArray), .bool false, .bool false, .int .i64 0, .slice none 0 0]) (t := 50) ?hr ?_; (case hd => rfl); (case hg => rfl); (case hr => first | (go_simp; done) | (go_simp; rfl)); intro gb130 hg w12 hbox hb; have n0_ := Aside0.mk (blk_below (g := gb128) (o := .cells #[.slice A0_0 l0_0.length c0_0, .slice A0_1 l0_1.length c0_1, .slice A0_2 l0_2.length c0_2, .slice A0_3 l0_3.length c0_3, .slice A0_4 l0_4.length c0_4, .slice (some ad129) l0_5.length c0_5, .int .i64 a0_6] 41 (0, 0)) (qk BK128.out) hb); have n1_ := Aside0.mk (below_step (qb1 HB.out GE128.out) hb); have n2_ := Aside0.mk (hbox); have n3_ := Aside0.mk ((by rw [hg]; exact (below_size (qb1 HB.out GE128.out)) : w.heap.size ≤ gb130)); have n4_ := Aside0.mk ((by rw [hg]; exact (below_size (qb1 HB.out GE128.out)) : w.heap.size ≤ gb130)); have n5_ := Aside0.mk ((by rw [hg]; exact Nat.ne_of_lt (blk_lt (g := gb128) (o := .cells #[.slice A0_0 l0_0.length c0_0, .slice A0_1 l0_1.length c0_1, .slice A0_2 l0_2.length c0_2, .slice A0_3 l0_3.length c0_3, .slice A0_4 l0_4.length c0_4, .slice (some ad129) l0_5.length c0_5, .int .i64 a0_6] 41 (0, 0)) (qk BK128.out)) : gb128 ≠ gb130)); have n6_ := Aside0.mk ((by rw [hg]; exact Nat.ne_of_gt (blk_lt (g := gb128) (o := .cells #[.slice A0_0 l0_0.length c0_0, .slice A0_1 l0_1.length c0_1, .slice A0_2 l0_2.length c0_2, .slice A0_3 l0_3.length c0_3, .slice A0_4 l0_4.length c0_4, .slice (some ad129) l0_5.length c0_5, .int .i64 a0_6] 41 (0, 0)) (qk BK128.out)) : gb130 ≠ gb128)); clear BK128; clear HB; have BK128 := n0_; have HB := n1_; have BK130 := n2_; have GW130 := n3_; have GE130 := n4_; have NB128_130 := n5_; have NB130_128 := n6_; clear n0_ n1_ n2_ n3_ n4_ n5_ n6_; clear hb hbox hg; have hnb13 := NB130_128.out; have hnc13 := NB128_130.out; have hcz14_0 : w12.cell? ⟨gb130, 0, none⟩ = some (.int .i64 0) := (blk_cell BK130.out 0).trans rfl; have hcz14_1 : w12.cell? ⟨gb130, 1, none⟩ = some (.int .i64 0) := (blk_cell BK130.out 1).trans rfl; have hcz14_2 : w12.cell? ⟨gb130, 2, none⟩ = some (.int .i64 0) := (blk_cell BK130.out 2).trans rfl; have hcz14_3 : w12.cell? ⟨gb130, 3, none⟩ = some (.int .i64 0) := (blk_cell BK130.out 3).trans rfl; have hcz14_4 : w12.cell? ⟨gb130, 4, none⟩ = some (.int .i64 0) := (blk_cell BK130.out 4).trans rfl; have hcz14_5 : w12.cell? ⟨gb130, 5, none⟩ = some (.int .i64 0) := (blk_cell BK130.out 5).trans rfl; have hcz14_6 : w12.cell? ⟨gb130, 6, none⟩ = some (.string (⟨#[]⟩ : ByteArray)) := (blk_cell BK130.out 6).trans rfl; have hcz14_7 : w12.cell? ⟨gb130, 7, none⟩ = some (.bool false) := (blk_cell BK130.out 7).trans rfl; have hcz14_8 : w12.cell? ⟨gb130, 8, none⟩ = some (.bool false) := (blk_cell BK130.out 8).trans rfl; have hcz14_9 : w12.cell? ⟨gb130, 9, none⟩ = some (.int .i64 0) := (blk_cell BK130.out 9).trans rfl; have hcz14_10 : w12.cell? ⟨gb130, 10, none⟩ = some (.slice none 0 0) := (blk_cell BK130.out 10).trans rfl; have hfz14_0 := blk_frozen BK130.out 0; have hfz14_1 := blk_frozen BK130.out 1; have hfz14_2 := blk_frozen BK130.out 2; have hfz14_3 := blk_frozen BK130.out 3; have hfz14_4 := blk_frozen BK130.out 4; have hfz14_5 := blk_frozen BK130.out 5; have hfz14_6 := blk_frozen BK130.out 6; have hfz14_7 := blk_frozen BK130.out 7; have hfz14_8 := blk_frozen BK130.out 8; have hfz14_9 := blk_frozen BK130.out 9; have hfz14_10 := blk_frozen BK130.out 10) | ((with_reducible refine gate_callee (f := 12) rfl ?_); refine goesL_ (some 22) rfl rfl Try.func12 (by kernel_rfl) rfl #[.agg #[.int .i64 ((rd_T50 l0_5 x7_1).f0), .int .i64 ((rd_T50 l0_5 x7_1).f1), .int .i64 ((rd_T50 l0_5 x7_1).f2), .int .i64 ((rd_T50 l0_5 x7_1).f3), .int .i64 ((rd_T50 l0_5 x7_1).f4), .int .i64 ((rd_T50 l0_5 x7_1).f5), .string ((rd_T50 l0_5 x7_1).f6), .bool ((rd_T50 l0_5 x7_1).f7), .bool ((rd_T50 l0_5 x7_1).f8), .int .i64 ((rd_T50 l0_5 x7_1).f9), .slice A129_10 ((rd_T50 l0_5 x7_1).f10).length c129_10]] rfl qm ?_; (with_reducible refine (spec_l08Name.calls ((rd_T50 l0_5 x7_1).f0) ((rd_T50 l0_5 x7_1).f1) ((rd_T50 l0_5 x7_1).f2) ((rd_T50 l0_5 x7_1).f3) ((rd_T50 l0_5 x7_1).f4) ((rd_T50 l0_5 x7_1).f5) ((rd_T50 l0_5 x7_1).f6) ((rd_T50 l0_5 x7_1).f7) ((rd_T50 l0_5 x7_1).f8) ((rd_T50 l0_5 x7_1).f9) _ _ ((rd_T50 l0_5 x7_1).f10) true _ ?side1 ?side2 A7.out).mono ?_); (case side1 => exact Kd.C_below HR129_10.out (qb2 HB.out GE128.out GE130.out)); (case side2 => exact HC129_10.out); rintro e w15 ⟨rfl, hb⟩; refine ⟨_, rfl, ?_⟩; have n0_ := Aside0.mk (blk_below (g := gb128) (o := .cells #[.slice A0_0 l0_0.length c0_0, .slice A0_1 l0_1.length c0_1, .slice A0_2 l0_2.length c0_2, .slice A0_3 l0_3.length c0_3, .slice A0_4 l0_4.length c0_4, .slice (some ad129) l0_5.length c0_5, .int .i64 a0_6] 41 (0, 0)) (by refine qK ?_; refine blk_far ?_ NB128_130.out _; refine qK ?_; refine blk_far ?_ NB128_130.out _; refine qK ?_; refine blk_far ?_ NB128_130.out _; refine qK ?_; refine blk_far ?_ NB128_130.out _; refine qK ?_; refine blk_far ?_ NB128_130.out _; refine qK ?_; refine blk_far ?_ NB128_130.out _; refine qK ?_; refine blk_far ?_ NB128_130.out _; refine qK ?_; refine blk_far ?_ NB128_130.out _; refine qK ?_; refine blk_far ?_ NB128_130.out _; refine qK ?_; refine blk_far ?_ NB128_130.out _; refine qK ?_; refine blk_far ?_ NB128_130.out _; refine qK ?_; exact BK128.out) hb); have n1_ := Aside0.mk (blk_below (g := gb130) (o := .cells #[.int .i64 ((rd_T50 l0_5 x7_1).f0), .int .i64 ((rd_T50 l0_5 x7_1).f1), .int .i64 ((rd_T50 l0_5 x7_1).f2), .int .i64 ((rd_T50 l0_5 x7_1).f3), .int .i64 ((rd_T50 l0_5 x7_1).f4), .int .i64 ((rd_T50 l0_5 x7_1).f5), .string ((rd_T50 l0_5 x7_1).f6), .bool ((rd_T50 l0_5 x7_1).f7), .bool ((rd_T50 l0_5 x7_1).f8), .int .i64 ((rd_T50 l0_5 x7_1).f9), .slice A129_10 ((rd_T50 l0_5 x7_1).f10).length c129_10] 50 (0, 0)) (by refine qK ?_; refine blk_put (cs := #[.int .i64 ((rd_T50 l0_5 x7_1).f0), .int .i64 ((rd_T50 l0_5 x7_1).f1), .int .i64 ((rd_T50 l0_5 x7_1).f2), .int .i64 ((rd_T50 l0_5 x7_1).f3), .int .i64 ((rd_T50 l0_5 x7_1).f4), .int .i64 ((rd_T50 l0_5 x7_1).f5), .string ((rd_T50 l0_5 x7_1).f6), .bool ((rd_T50 l0_5 x7_1).f7), .bool ((rd_T50 l0_5 x7_1).f8), .int .i64 ((rd_T50 l0_5 x7_1).f9), .slice none 0 0]) ?_ 10 _ rfl; refine qK ?_; refine blk_put (cs := #[.int .i64 ((rd_T50 l0_5 x7_1).f0), .int .i64 ((rd_T50 l0_5 x7_1).f1), .int .i64 ((rd_T50 l0_5 x7_1).f2), .int .i64 ((rd_T50 l0_5 x7_1).f3), .int .i64 ((rd_T50 l0_5 x7_1).f4), .int .i64 ((rd_T50 l0_5 x7_1).f5), .string ((rd_T50 l0_5 x7_1).f6), .bool ((rd_T50 l0_5 x7_1).f7), .bool ((rd_T50 l0_5 x7_1).f8), .int .i64 0, .slice none 0 0]) ?_ 9 _ rfl; refine qK ?_; refine blk_put (cs := #[.int .i64 ((rd_T50 l0_5 x7_1).f0), .int .i64 ((rd_T50 l0_5 x7_1).f1), .int .i64 ((rd_T50 l0_5 x7_1).f2), .int .i64 ((rd_T50 l0_5 x7_1).f3), .int .i64 ((rd_T50 l0_5 x7_1).f4), .int .i64 ((rd_T50 l0_5 x7_1).f5), .string ((rd_T50 l0_5 x7_1).f6), .bool ((rd_T50 l0_5 x7_1).f7), .bool false, .int .i64 0, .slice none 0 0]) ?_ 8 _ rfl; refine qK ?_; refine blk_put (cs := #[.int .i64 ((rd_T50 l0_5 x7_1).f0), .int .i64 ((rd_T50 l0_5 x7_1).f1), .int .i64 ((rd_T50 l0_5 x7_1).f2), .int .i64 ((rd_T50 l0_5 x7_1).f3), .int .i64 ((rd_T50 l0_5 x7_1).f4), .int .i64 ((rd_T50 l0_5 x7_1).f5), .string ((rd_T50 l0_5 x7_1).f6), .bool false, .bool false, .int .i64 0, .slice none 0 0]) ?_ 7 _ rfl; refine qK ?_; refine blk_put (cs := #[.int .i64 ((rd_T50 l0_5 x7_1).f0), .int .i64 ((rd_T50 l0_5 x7_1).f1), .int .i64 ((rd_T50 l0_5 x7_1).f2), .int .i64 ((rd_T50 l0_5 x7_1).f3), .int .i64 ((rd_T50 l0_5 x7_1).f4), .int .i64 ((rd_T50 l0_5 x7_1).f5), .string (⟨#[]⟩ : ByteArray), .bool false, .bool false, .int .i64 0, .slice none 0 0]) ?_ 6 _ rfl; refine qK ?_; refine blk_put (cs := #[.int .i64 ((rd_T50 l0_5 x7_1).f0), .int .i64 ((rd_T50 l0_5 x7_1).f1), .int .i64 ((rd_T50 l0_5 x7_1).f2), .int .i64 ((rd_T50 l0_5 x7_1).f3), .int .i64 ((rd_T50 l0_5 x7_1).f4), .int .i64 0, .string (⟨#[]⟩ : ByteArray), .bool false, .bool false, .int .i64 0, .slice none 0 0]) ?_ 5 _ rfl; refine qK ?_; refine blk_put (cs := #[.int .i64 ((rd_T50 l0_5 x7_1).f0), .int .i64 ((rd_T50 l0_5 x7_1).f1), .int .i64 ((rd_T50 l0_5 x7_1).f2), .int .i64 ((rd_T50 l0_5 x7_1).f3), .int .i64 0, .int .i64 0, .string (⟨#[]⟩ : ByteArray), .bool false, .bool false, .int .i64 0, .slice none 0 0]) ?_ 4 _ rfl; refine qK ?_; refine blk_put (cs := #[.int .i64 ((rd_T50 l0_5 x7_1).f0), .int .i64 ((rd_T50 l0_5 x7_1).f1), .int .i64 ((rd_T50 l0_5 x7_1).f2), .int .i64 0, .int .i64 0, .int .i64 0, .string (⟨#[]⟩ : ByteArray), .bool false, .bool false, .int .i64 0, .slice none 0 0]) ?_ 3 _ rfl; refine qK ?_; refine blk_put (cs := #[.int .i64 ((rd_T50 l0_5 x7_1).f0), .int .i64 ((rd_T50 l0_5 x7_1).f1), .int .i64 0, .int .i64 0, .int .i64 0, .int .i64 0, .string (⟨#[]⟩ : ByteArray), .bool false, .bool false, .int .i64 0, .slice none 0 0]) ?_ 2 _ rfl; refine qK ?_; refine blk_put (cs := #[.int .i64 ((rd_T50 l0_5 x7_1).f0), .int .i64 0, .int .i64 0, .int .i64 0, .int .i64 0, .int .i64 0, .string (⟨#[]⟩ : ByteArray), .bool false, .bool false, .int .i64 0, .slice none 0 0]) ?_ 1 _ rfl; refine qK ?_; refine blk_put (cs := #[.int .i64 0, .int .i64 0, .int .i64 0, .int .i64 0, .int .i64 0, .int .i64 0, .string (⟨#[]⟩ : ByteArray), .bool false, .bool false, .int .i64 0, .slice none 0 0]) ?_ 0 _ rfl; refine qK ?_; exact BK130.out) hb); have n2_ := Aside0.mk (below_step (qb2 HB.out GE128.out GE130.out) hb); clear BK128; clear BK130; clear HB; have BK128 := n0_; have BK130 := n1_; have HB := n2_; clear n0_ n1_ n2_; (try clear hb); (try clear hb2); (try clear hk); (try clear hi); have hcz16_0 : w15.cell? ⟨gb130, 0, none⟩ = some (.int .i64 ((rd_T50 l0_5 x7_1).f0)) := (blk_cell BK130.out 0).trans rfl; have hcz16_1 : w15.cell? ⟨gb130, 1, none⟩ = some (.int .i64 ((rd_T50 l0_5 x7_1).f1)) := (blk_cell BK130.out 1).trans rfl; have hcz16_2 : w15.cell? ⟨gb130, 2, none⟩ = some (.int .i64 ((rd_T50 l0_5 x7_1).f2)) := (blk_cell BK130.out 2).trans rfl; have hcz16_3 : w15.cell? ⟨gb130, 3, none⟩ = some (.int .i64 ((rd_T50 l0_5 x7_1).f3)) := (blk_cell BK130.out 3).trans rfl; have hcz16_4 : w15.cell? ⟨gb130, 4, none⟩ = some (.int .i64 ((rd_T50 l0_5 x7_1).f4)) := (blk_cell BK130.out 4).trans rfl; have hcz16_5 : w15.cell? ⟨gb130, 5, none⟩ = some (.int .i64 ((rd_T50 l0_5 x7_1).f5)) := (blk_cell BK130.out 5).trans rfl; have hcz16_6 : w15.cell? ⟨gb130, 6, none⟩ = some (.string ((rd_T50 l0_5 x7_1).f6)) := (blk_cell BK130.out 6).trans rfl; have hcz16_7 : w15.cell? ⟨gb130, 7, none⟩ = some (.bool ((rd_T50 l0_5 x7_1).f7)) := (blk_cell BK130.out 7).trans rfl; have hcz16_8 : w15.cell? ⟨gb130, 8, none⟩ = some (.bool ((rd_T50 l0_5 x7_1).f8)) := (blk_cell BK130.out 8).trans rfl; have hcz16_9 : w15.cell? ⟨gb130, 9, none⟩ = some (.int .i64 ((rd_T50 l0_5 x7_1).f9)) := (blk_cell BK130.out 9).trans rfl; have hcz16_10 : w15.cell? ⟨gb130, 10, none⟩ = some (.slice A129_10 ((rd_T50 l0_5 x7_1).f10).length c129_10) := (blk_cell BK130.out 10).trans rfl; have hfz16_0 := blk_frozen BK130.out 0; have hfz16_1 := blk_frozen BK130.out 1; have hfz16_2 := blk_frozen BK130.out 2; have hfz16_3 := blk_frozen BK130.out 3; have hfz16_4 := blk_frozen BK130.out 4; have hfz16_5 := blk_frozen BK130.out 5; have hfz16_6 := blk_frozen BK130.out 6; have hfz16_7 := blk_frozen BK130.out 7; have hfz16_8 := blk_frozen BK130.out 8; have hfz16_9 := blk_frozen BK130.out 9; have hfz16_10 := blk_frozen BK130.out 10))
        go_ret
        exact ⟨qe, qb2 HB.out GE128.out GE130.out⟩
       ·rw [if_neg c10] at H
        have c10b0 : (((rd_T50 l0_5 x7_1).f5) == a2) = false := beq_eq_false_iff_ne.mpr c10
        have c10b1 : (((rd_T50 l0_5 x7_1).f5) != a2) = true := bne_iff_ne.mpr c10
        have H' := Aside0.mk H
        clear H
        have hcz17_0 : wr.cell? ⟨gb128, 0, none⟩ = some (.slice A0_0 l0_0.length c0_0) := (blk_cell BK128.out 0).trans rfl
        have hcz17_1 : wr.cell? ⟨gb128, 1, none⟩ = some (.slice A0_1 l0_1.length c0_1) := (blk_cell BK128.out 1).trans rfl
        have hcz17_2 : wr.cell? ⟨gb128, 2, none⟩ = some (.slice A0_2 l0_2.length c0_2) := (blk_cell BK128.out 2).trans rfl
        have hcz17_3 : wr.cell? ⟨gb128, 3, none⟩ = some (.slice A0_3 l0_3.length c0_3) := (blk_cell BK128.out 3).trans rfl
        have hcz17_4 : wr.cell? ⟨gb128, 4, none⟩ = some (.slice A0_4 l0_4.length c0_4) := (blk_cell BK128.out 4).trans rfl
        have hcz17_5 : wr.cell? ⟨gb128, 5, none⟩ = some (.slice A0_5 l0_5.length c0_5) := (blk_cell BK128.out 5).trans rfl
        have hcz17_6 : wr.cell? ⟨gb128, 6, none⟩ = some (.int .i64 a0_6) := (blk_cell BK128.out 6).trans rfl
        have hfz17_0 := blk_frozen BK128.out 0
        have hfz17_1 := blk_frozen BK128.out 1
        have hfz17_2 := blk_frozen BK128.out 2
        have hfz17_3 := blk_frozen BK128.out 3
        have hfz17_4 := blk_frozen BK128.out 4
        have hfz17_5 := blk_frozen BK128.out 5
        have hfz17_6 := blk_frozen BK128.out 6
        have p129 : 0 ≤ (x7_1 : Int) := qo
        have q129 : x7_1 < (l0_5.length : Int) := qo
        obtain ⟨ad129, A129_10, c129_10, e129, hx129_0, hx129_1, hx129_2, hx129_3, hx129_4, hx129_5, hx129_6, hx129_7, hx129_8, hx129_9, hx129_10, hl129_10, hi129_10⟩ := at_T50 HR0_5.out x7_1 p129 q129
        cases e129
        replace hx129_0 := qc HB.out hx129_0
        replace hx129_1 := qc HB.out hx129_1
        replace hx129_2 := qc HB.out hx129_2
        replace hx129_3 := qc HB.out hx129_3
        replace hx129_4 := qc HB.out hx129_4
        replace hx129_5 := qc HB.out hx129_5
        replace hx129_6 := qc HB.out hx129_6
        replace hx129_7 := qc HB.out hx129_7
        replace hx129_8 := qc HB.out hx129_8
        replace hx129_9 := qc HB.out hx129_9
        replace hx129_10 := qc HB.out hx129_10
        have HR129_10 := Aside0.mk hi129_10
        have HC129_10 := Aside0.mk hl129_10
        clear hi129_10 hl129_10
        replace p129 := eq_true p129
        replace q129 := eq_true q129
        go_wp2_with (first | ((with_reducible refine gate_dst (N := 8) rfl ?_); refine box_event ?hg (N := 8) ?hd (cs := #[.int .i64 0, .int .i64 0, .int .i64 0, .int .i64 0, .int .i64 0, .int .i64 0, .string (⟨#[]⟩ : ByteArray), .bool false, .bool false, .int .i64 0, .slice none 0 0]) (t := 50) ?hr ?_; (case hd => rfl); (case hg => rfl); (case hr => first | (go_simp; done) | (go_simp; rfl)); intro gb130 hg w18 hbox hb; have n0_ := Aside0.mk (blk_below (g := gb128) (o := .cells #[.slice A0_0 l0_0.length c0_0, .slice A0_1 l0_1.length c0_1, .slice A0_2 l0_2.length c0_2, .slice A0_3 l0_3.length c0_3, .slice A0_4 l0_4.length c0_4, .slice (some ad129) l0_5.length c0_5, .int .i64 a0_6] 41 (0, 0)) (qk BK128.out) hb); have n1_ := Aside0.mk (below_step (qb1 HB.out GE128.out) hb); have n2_ := Aside0.mk (hbox); have n3_ := Aside0.mk ((by rw [hg]; exact (below_size (qb1 HB.out GE128.out)) : w.heap.size ≤ gb130)); have n4_ := Aside0.mk ((by rw [hg]; exact (below_size (qb1 HB.out GE128.out)) : w.heap.size ≤ gb130)); have n5_ := Aside0.mk ((by rw [hg]; exact Nat.ne_of_lt (blk_lt (g := gb128) (o := .cells #[.slice A0_0 l0_0.length c0_0, .slice A0_1 l0_1.length c0_1, .slice A0_2 l0_2.length c0_2, .slice A0_3 l0_3.length c0_3, .slice A0_4 l0_4.length c0_4, .slice (some ad129) l0_5.length c0_5, .int .i64 a0_6] 41 (0, 0)) (qk BK128.out)) : gb128 ≠ gb130)); have n6_ := Aside0.mk ((by rw [hg]; exact Nat.ne_of_gt (blk_lt (g := gb128) (o := .cells #[.slice A0_0 l0_0.length c0_0, .slice A0_1 l0_1.length c0_1, .slice A0_2 l0_2.length c0_2, .slice A0_3 l0_3.length c0_3, .slice A0_4 l0_4.length c0_4, .slice (some ad129) l0_5.length c0_5, .int .i64 a0_6] 41 (0, 0)) (qk BK128.out)) : gb130 ≠ gb128)); clear BK128; clear HB; have BK128 := n0_; have HB := n1_; have BK130 := n2_; have GW130 := n3_; have GE130 := n4_; have NB128_130 := n5_; have NB130_128 := n6_; clear n0_ n1_ n2_ n3_ n4_ n5_ n6_; clear hb hbox hg; have hnb19 := NB130_128.out; have hnc19 := NB128_130.out; have hcz20_0 : w18.cell? ⟨gb130, 0, none⟩ = some (.int .i64 0) := (blk_cell BK130.out 0).trans rfl; have hcz20_1 : w18.cell? ⟨gb130, 1, none⟩ = some (.int .i64 0) := (blk_cell BK130.out 1).trans rfl; have hcz20_2 : w18.cell? ⟨gb130, 2, none⟩ = some (.int .i64 0) := (blk_cell BK130.out 2).trans rfl; have hcz20_3 : w18.cell? ⟨gb130, 3, none⟩ = some (.int .i64 0) := (blk_cell BK130.out 3).trans rfl; have hcz20_4 : w18.cell? ⟨gb130, 4, none⟩ = some (.int .i64 0) := (blk_cell BK130.out 4).trans rfl; have hcz20_5 : w18.cell? ⟨gb130, 5, none⟩ = some (.int .i64 0) := (blk_cell BK130.out 5).trans rfl; have hcz20_6 : w18.cell? ⟨gb130, 6, none⟩ = some (.string (⟨#[]⟩ : ByteArray)) := (blk_cell BK130.out 6).trans rfl; have hcz20_7 : w18.cell? ⟨gb130, 7, none⟩ = some (.bool false) := (blk_cell BK130.out 7).trans rfl; have hcz20_8 : w18.cell? ⟨gb130, 8, none⟩ = some (.bool false) := (blk_cell BK130.out 8).trans rfl; have hcz20_9 : w18.cell? ⟨gb130, 9, none⟩ = some (.int .i64 0) := (blk_cell BK130.out 9).trans rfl; have hcz20_10 : w18.cell? ⟨gb130, 10, none⟩ = some (.slice none 0 0) := (blk_cell BK130.out 10).trans rfl; have hfz20_0 := blk_frozen BK130.out 0; have hfz20_1 := blk_frozen BK130.out 1; have hfz20_2 := blk_frozen BK130.out 2; have hfz20_3 := blk_frozen BK130.out 3; have hfz20_4 := blk_frozen BK130.out 4; have hfz20_5 := blk_frozen BK130.out 5; have hfz20_6 := blk_frozen BK130.out 6; have hfz20_7 := blk_frozen BK130.out 7; have hfz20_8 := blk_frozen BK130.out 8; have hfz20_9 := blk_frozen BK130.out 9; have hfz20_10 := blk_frozen BK130.out 10) | ((with_reducible refine gate_callee (f := 12) rfl ?_); refine goesL_ (some 22) rfl rfl Try.func12 (by kernel_rfl) rfl #[.agg #[.int .i64 ((rd_T50 l0_5 x7_1).f0), .int .i64 ((rd_T50 l0_5 x7_1).f1), .int .i64 ((rd_T50 l0_5 x7_1).f2), .int .i64 ((rd_T50 l0_5 x7_1).f3), .int .i64 ((rd_T50 l0_5 x7_1).f4), .int .i64 ((rd_T50 l0_5 x7_1).f5), .string ((rd_T50 l0_5 x7_1).f6), .bool ((rd_T50 l0_5 x7_1).f7), .bool ((rd_T50 l0_5 x7_1).f8), .int .i64 ((rd_T50 l0_5 x7_1).f9), .slice A129_10 ((rd_T50 l0_5 x7_1).f10).length c129_10]] rfl qm ?_; (with_reducible refine (spec_l08Name.calls ((rd_T50 l0_5 x7_1).f0) ((rd_T50 l0_5 x7_1).f1) ((rd_T50 l0_5 x7_1).f2) ((rd_T50 l0_5 x7_1).f3) ((rd_T50 l0_5 x7_1).f4) ((rd_T50 l0_5 x7_1).f5) ((rd_T50 l0_5 x7_1).f6) ((rd_T50 l0_5 x7_1).f7) ((rd_T50 l0_5 x7_1).f8) ((rd_T50 l0_5 x7_1).f9) _ _ ((rd_T50 l0_5 x7_1).f10) true _ ?side1 ?side2 A7.out).mono ?_); (case side1 => exact Kd.C_below HR129_10.out (qb2 HB.out GE128.out GE130.out)); (case side2 => exact HC129_10.out); rintro e w21 ⟨rfl, hb⟩; refine ⟨_, rfl, ?_⟩; have n0_ := Aside0.mk (blk_below (g := gb128) (o := .cells #[.slice A0_0 l0_0.length c0_0, .slice A0_1 l0_1.length c0_1, .slice A0_2 l0_2.length c0_2, .slice A0_3 l0_3.length c0_3, .slice A0_4 l0_4.length c0_4, .slice (some ad129) l0_5.length c0_5, .int .i64 a0_6] 41 (0, 0)) (by refine qK ?_; refine blk_far ?_ NB128_130.out _; refine qK ?_; refine blk_far ?_ NB128_130.out _; refine qK ?_; refine blk_far ?_ NB128_130.out _; refine qK ?_; refine blk_far ?_ NB128_130.out _; refine qK ?_; refine blk_far ?_ NB128_130.out _; refine qK ?_; refine blk_far ?_ NB128_130.out _; refine qK ?_; refine blk_far ?_ NB128_130.out _; refine qK ?_; refine blk_far ?_ NB128_130.out _; refine qK ?_; refine blk_far ?_ NB128_130.out _; refine qK ?_; refine blk_far ?_ NB128_130.out _; refine qK ?_; refine blk_far ?_ NB128_130.out _; refine qK ?_; exact BK128.out) hb); have n1_ := Aside0.mk (blk_below (g := gb130) (o := .cells #[.int .i64 ((rd_T50 l0_5 x7_1).f0), .int .i64 ((rd_T50 l0_5 x7_1).f1), .int .i64 ((rd_T50 l0_5 x7_1).f2), .int .i64 ((rd_T50 l0_5 x7_1).f3), .int .i64 ((rd_T50 l0_5 x7_1).f4), .int .i64 ((rd_T50 l0_5 x7_1).f5), .string ((rd_T50 l0_5 x7_1).f6), .bool ((rd_T50 l0_5 x7_1).f7), .bool ((rd_T50 l0_5 x7_1).f8), .int .i64 ((rd_T50 l0_5 x7_1).f9), .slice A129_10 ((rd_T50 l0_5 x7_1).f10).length c129_10] 50 (0, 0)) (by refine qK ?_; refine blk_put (cs := #[.int .i64 ((rd_T50 l0_5 x7_1).f0), .int .i64 ((rd_T50 l0_5 x7_1).f1), .int .i64 ((rd_T50 l0_5 x7_1).f2), .int .i64 ((rd_T50 l0_5 x7_1).f3), .int .i64 ((rd_T50 l0_5 x7_1).f4), .int .i64 ((rd_T50 l0_5 x7_1).f5), .string ((rd_T50 l0_5 x7_1).f6), .bool ((rd_T50 l0_5 x7_1).f7), .bool ((rd_T50 l0_5 x7_1).f8), .int .i64 ((rd_T50 l0_5 x7_1).f9), .slice none 0 0]) ?_ 10 _ rfl; refine qK ?_; refine blk_put (cs := #[.int .i64 ((rd_T50 l0_5 x7_1).f0), .int .i64 ((rd_T50 l0_5 x7_1).f1), .int .i64 ((rd_T50 l0_5 x7_1).f2), .int .i64 ((rd_T50 l0_5 x7_1).f3), .int .i64 ((rd_T50 l0_5 x7_1).f4), .int .i64 ((rd_T50 l0_5 x7_1).f5), .string ((rd_T50 l0_5 x7_1).f6), .bool ((rd_T50 l0_5 x7_1).f7), .bool ((rd_T50 l0_5 x7_1).f8), .int .i64 0, .slice none 0 0]) ?_ 9 _ rfl; refine qK ?_; refine blk_put (cs := #[.int .i64 ((rd_T50 l0_5 x7_1).f0), .int .i64 ((rd_T50 l0_5 x7_1).f1), .int .i64 ((rd_T50 l0_5 x7_1).f2), .int .i64 ((rd_T50 l0_5 x7_1).f3), .int .i64 ((rd_T50 l0_5 x7_1).f4), .int .i64 ((rd_T50 l0_5 x7_1).f5), .string ((rd_T50 l0_5 x7_1).f6), .bool ((rd_T50 l0_5 x7_1).f7), .bool false, .int .i64 0, .slice none 0 0]) ?_ 8 _ rfl; refine qK ?_; refine blk_put (cs := #[.int .i64 ((rd_T50 l0_5 x7_1).f0), .int .i64 ((rd_T50 l0_5 x7_1).f1), .int .i64 ((rd_T50 l0_5 x7_1).f2), .int .i64 ((rd_T50 l0_5 x7_1).f3), .int .i64 ((rd_T50 l0_5 x7_1).f4), .int .i64 ((rd_T50 l0_5 x7_1).f5), .string ((rd_T50 l0_5 x7_1).f6), .bool false, .bool false, .int .i64 0, .slice none 0 0]) ?_ 7 _ rfl; refine qK ?_; refine blk_put (cs := #[.int .i64 ((rd_T50 l0_5 x7_1).f0), .int .i64 ((rd_T50 l0_5 x7_1).f1), .int .i64 ((rd_T50 l0_5 x7_1).f2), .int .i64 ((rd_T50 l0_5 x7_1).f3), .int .i64 ((rd_T50 l0_5 x7_1).f4), .int .i64 ((rd_T50 l0_5 x7_1).f5), .string (⟨#[]⟩ : ByteArray), .bool false, .bool false, .int .i64 0, .slice none 0 0]) ?_ 6 _ rfl; refine qK ?_; refine blk_put (cs := #[.int .i64 ((rd_T50 l0_5 x7_1).f0), .int .i64 ((rd_T50 l0_5 x7_1).f1), .int .i64 ((rd_T50 l0_5 x7_1).f2), .int .i64 ((rd_T50 l0_5 x7_1).f3), .int .i64 ((rd_T50 l0_5 x7_1).f4), .int .i64 0, .string (⟨#[]⟩ : ByteArray), .bool false, .bool false, .int .i64 0, .slice none 0 0]) ?_ 5 _ rfl; refine qK ?_; refine blk_put (cs := #[.int .i64 ((rd_T50 l0_5 x7_1).f0), .int .i64 ((rd_T50 l0_5 x7_1).f1), .int .i64 ((rd_T50 l0_5 x7_1).f2), .int .i64 ((rd_T50 l0_5 x7_1).f3), .int .i64 0, .int .i64 0, .string (⟨#[]⟩ : ByteArray), .bool false, .bool false, .int .i64 0, .slice none 0 0]) ?_ 4 _ rfl; refine qK ?_; refine blk_put (cs := #[.int .i64 ((rd_T50 l0_5 x7_1).f0), .int .i64 ((rd_T50 l0_5 x7_1).f1), .int .i64 ((rd_T50 l0_5 x7_1).f2), .int .i64 0, .int .i64 0, .int .i64 0, .string (⟨#[]⟩ : ByteArray), .bool false, .bool false, .int .i64 0, .slice none 0 0]) ?_ 3 _ rfl; refine qK ?_; refine blk_put (cs := #[.int .i64 ((rd_T50 l0_5 x7_1).f0), .int .i64 ((rd_T50 l0_5 x7_1).f1), .int .i64 0, .int .i64 0, .int .i64 0, .int .i64 0, .string (⟨#[]⟩ : ByteArray), .bool false, .bool false, .int .i64 0, .slice none 0 0]) ?_ 2 _ rfl; refine qK ?_; refine blk_put (cs := #[.int .i64 ((rd_T50 l0_5 x7_1).f0), .int .i64 0, .int .i64 0, .int .i64 0, .int .i64 0, .int .i64 0, .string (⟨#[]⟩ : ByteArray), .bool false, .bool false, .int .i64 0, .slice none 0 0]) ?_ 1 _ rfl; refine qK ?_; refine blk_put (cs := #[.int .i64 0, .int .i64 0, .int .i64 0, .int .i64 0, .int .i64 0, .int .i64 0, .string (⟨#[]⟩ : ByteArray), .bool false, .bool false, .int .i64 0, .slice none 0 0]) ?_ 0 _ rfl; refine qK ?_; exact BK130.out) hb); have n2_ := Aside0.mk (below_step (qb2 HB.out GE128.out GE130.out) hb); clear BK128; clear BK130; clear HB; have BK128 := n0_; have BK130 := n1_; have HB := n2_; clear n0_ n1_ n2_; (try clear hb); (try clear hb2); (try clear hk); (try clear hi); have hcz22_0 : w21.cell? ⟨gb130, 0, none⟩ = some (.int .i64 ((rd_T50 l0_5 x7_1).f0)) := (blk_cell BK130.out 0).trans rfl; have hcz22_1 : w21.cell? ⟨gb130, 1, none⟩ = some (.int .i64 ((rd_T50 l0_5 x7_1).f1)) := (blk_cell BK130.out 1).trans rfl; have hcz22_2 : w21.cell? ⟨gb130, 2, none⟩ = some (.int .i64 ((rd_T50 l0_5 x7_1).f2)) := (blk_cell BK130.out 2).trans rfl; have hcz22_3 : w21.cell? ⟨gb130, 3, none⟩ = some (.int .i64 ((rd_T50 l0_5 x7_1).f3)) := (blk_cell BK130.out 3).trans rfl; have hcz22_4 : w21.cell? ⟨gb130, 4, none⟩ = some (.int .i64 ((rd_T50 l0_5 x7_1).f4)) := (blk_cell BK130.out 4).trans rfl; have hcz22_5 : w21.cell? ⟨gb130, 5, none⟩ = some (.int .i64 ((rd_T50 l0_5 x7_1).f5)) := (blk_cell BK130.out 5).trans rfl; have hcz22_6 : w21.cell? ⟨gb130, 6, none⟩ = some (.string ((rd_T50 l0_5 x7_1).f6)) := (blk_cell BK130.out 6).trans rfl; have hcz22_7 : w21.cell? ⟨gb130, 7, none⟩ = some (.bool ((rd_T50 l0_5 x7_1).f7)) := (blk_cell BK130.out 7).trans rfl; have hcz22_8 : w21.cell? ⟨gb130, 8, none⟩ = some (.bool ((rd_T50 l0_5 x7_1).f8)) := (blk_cell BK130.out 8).trans rfl; have hcz22_9 : w21.cell? ⟨gb130, 9, none⟩ = some (.int .i64 ((rd_T50 l0_5 x7_1).f9)) := (blk_cell BK130.out 9).trans rfl; have hcz22_10 : w21.cell? ⟨gb130, 10, none⟩ = some (.slice A129_10 ((rd_T50 l0_5 x7_1).f10).length c129_10) := (blk_cell BK130.out 10).trans rfl; have hfz22_0 := blk_frozen BK130.out 0; have hfz22_1 := blk_frozen BK130.out 1; have hfz22_2 := blk_frozen BK130.out 2; have hfz22_3 := blk_frozen BK130.out 3; have hfz22_4 := blk_frozen BK130.out 4; have hfz22_5 := blk_frozen BK130.out 5; have hfz22_6 := blk_frozen BK130.out 6; have hfz22_7 := blk_frozen BK130.out 7; have hfz22_8 := blk_frozen BK130.out 8; have hfz22_9 := blk_frozen BK130.out 9; have hfz22_10 := blk_frozen BK130.out 10))
        go_roundg k1
        case measure => have := HK1.out; omega
        case rel => exact ⟨(wrap64 (x7_1 + 1)), qz, H', ⟨by have := HK1.out; omega⟩, ⟨qk BK128.out⟩, ⟨qb2 HB.out GE128.out GE130.out⟩⟩
      ·rw [if_neg c9] at H
       have c9b0 : (((rd_T50 l0_5 x7_1).f4) == a1) = false := beq_eq_false_iff_ne.mpr c9
       have c9b1 : (((rd_T50 l0_5 x7_1).f4) != a1) = true := bne_iff_ne.mpr c9
       have H' := Aside0.mk H
       clear H
       have hcz23_0 : wr.cell? ⟨gb128, 0, none⟩ = some (.slice A0_0 l0_0.length c0_0) := (blk_cell BK128.out 0).trans rfl
       have hcz23_1 : wr.cell? ⟨gb128, 1, none⟩ = some (.slice A0_1 l0_1.length c0_1) := (blk_cell BK128.out 1).trans rfl
       have hcz23_2 : wr.cell? ⟨gb128, 2, none⟩ = some (.slice A0_2 l0_2.length c0_2) := (blk_cell BK128.out 2).trans rfl
       have hcz23_3 : wr.cell? ⟨gb128, 3, none⟩ = some (.slice A0_3 l0_3.length c0_3) := (blk_cell BK128.out 3).trans rfl
       have hcz23_4 : wr.cell? ⟨gb128, 4, none⟩ = some (.slice A0_4 l0_4.length c0_4) := (blk_cell BK128.out 4).trans rfl
       have hcz23_5 : wr.cell? ⟨gb128, 5, none⟩ = some (.slice A0_5 l0_5.length c0_5) := (blk_cell BK128.out 5).trans rfl
       have hcz23_6 : wr.cell? ⟨gb128, 6, none⟩ = some (.int .i64 a0_6) := (blk_cell BK128.out 6).trans rfl
       have hfz23_0 := blk_frozen BK128.out 0
       have hfz23_1 := blk_frozen BK128.out 1
       have hfz23_2 := blk_frozen BK128.out 2
       have hfz23_3 := blk_frozen BK128.out 3
       have hfz23_4 := blk_frozen BK128.out 4
       have hfz23_5 := blk_frozen BK128.out 5
       have hfz23_6 := blk_frozen BK128.out 6
       have p129 : 0 ≤ (x7_1 : Int) := qo
       have q129 : x7_1 < (l0_5.length : Int) := qo
       obtain ⟨ad129, A129_10, c129_10, e129, hx129_0, hx129_1, hx129_2, hx129_3, hx129_4, hx129_5, hx129_6, hx129_7, hx129_8, hx129_9, hx129_10, hl129_10, hi129_10⟩ := at_T50 HR0_5.out x7_1 p129 q129
       cases e129
       replace hx129_0 := qc HB.out hx129_0
       replace hx129_1 := qc HB.out hx129_1
       replace hx129_2 := qc HB.out hx129_2
       replace hx129_3 := qc HB.out hx129_3
       replace hx129_4 := qc HB.out hx129_4
       replace hx129_5 := qc HB.out hx129_5
       replace hx129_6 := qc HB.out hx129_6
       replace hx129_7 := qc HB.out hx129_7
       replace hx129_8 := qc HB.out hx129_8
       replace hx129_9 := qc HB.out hx129_9
       replace hx129_10 := qc HB.out hx129_10
       have HR129_10 := Aside0.mk hi129_10
       have HC129_10 := Aside0.mk hl129_10
       clear hi129_10 hl129_10
       replace p129 := eq_true p129
       replace q129 := eq_true q129
       go_wp2_with (first | ((with_reducible refine gate_dst (N := 8) rfl ?_); refine box_event ?hg (N := 8) ?hd (cs := #[.int .i64 0, .int .i64 0, .int .i64 0, .int .i64 0, .int .i64 0, .int .i64 0, .string (⟨#[]⟩ : ByteArray), .bool false, .bool false, .int .i64 0, .slice none 0 0]) (t := 50) ?hr ?_; (case hd => rfl); (case hg => rfl); (case hr => first | (go_simp; done) | (go_simp; rfl)); intro gb130 hg w24 hbox hb; have n0_ := Aside0.mk (blk_below (g := gb128) (o := .cells #[.slice A0_0 l0_0.length c0_0, .slice A0_1 l0_1.length c0_1, .slice A0_2 l0_2.length c0_2, .slice A0_3 l0_3.length c0_3, .slice A0_4 l0_4.length c0_4, .slice (some ad129) l0_5.length c0_5, .int .i64 a0_6] 41 (0, 0)) (qk BK128.out) hb); have n1_ := Aside0.mk (below_step (qb1 HB.out GE128.out) hb); have n2_ := Aside0.mk (hbox); have n3_ := Aside0.mk ((by rw [hg]; exact (below_size (qb1 HB.out GE128.out)) : w.heap.size ≤ gb130)); have n4_ := Aside0.mk ((by rw [hg]; exact (below_size (qb1 HB.out GE128.out)) : w.heap.size ≤ gb130)); have n5_ := Aside0.mk ((by rw [hg]; exact Nat.ne_of_lt (blk_lt (g := gb128) (o := .cells #[.slice A0_0 l0_0.length c0_0, .slice A0_1 l0_1.length c0_1, .slice A0_2 l0_2.length c0_2, .slice A0_3 l0_3.length c0_3, .slice A0_4 l0_4.length c0_4, .slice (some ad129) l0_5.length c0_5, .int .i64 a0_6] 41 (0, 0)) (qk BK128.out)) : gb128 ≠ gb130)); have n6_ := Aside0.mk ((by rw [hg]; exact Nat.ne_of_gt (blk_lt (g := gb128) (o := .cells #[.slice A0_0 l0_0.length c0_0, .slice A0_1 l0_1.length c0_1, .slice A0_2 l0_2.length c0_2, .slice A0_3 l0_3.length c0_3, .slice A0_4 l0_4.length c0_4, .slice (some ad129) l0_5.length c0_5, .int .i64 a0_6] 41 (0, 0)) (qk BK128.out)) : gb130 ≠ gb128)); clear BK128; clear HB; have BK128 := n0_; have HB := n1_; have BK130 := n2_; have GW130 := n3_; have GE130 := n4_; have NB128_130 := n5_; have NB130_128 := n6_; clear n0_ n1_ n2_ n3_ n4_ n5_ n6_; clear hb hbox hg; have hnb25 := NB130_128.out; have hnc25 := NB128_130.out; have hcz26_0 : w24.cell? ⟨gb130, 0, none⟩ = some (.int .i64 0) := (blk_cell BK130.out 0).trans rfl; have hcz26_1 : w24.cell? ⟨gb130, 1, none⟩ = some (.int .i64 0) := (blk_cell BK130.out 1).trans rfl; have hcz26_2 : w24.cell? ⟨gb130, 2, none⟩ = some (.int .i64 0) := (blk_cell BK130.out 2).trans rfl; have hcz26_3 : w24.cell? ⟨gb130, 3, none⟩ = some (.int .i64 0) := (blk_cell BK130.out 3).trans rfl; have hcz26_4 : w24.cell? ⟨gb130, 4, none⟩ = some (.int .i64 0) := (blk_cell BK130.out 4).trans rfl; have hcz26_5 : w24.cell? ⟨gb130, 5, none⟩ = some (.int .i64 0) := (blk_cell BK130.out 5).trans rfl; have hcz26_6 : w24.cell? ⟨gb130, 6, none⟩ = some (.string (⟨#[]⟩ : ByteArray)) := (blk_cell BK130.out 6).trans rfl; have hcz26_7 : w24.cell? ⟨gb130, 7, none⟩ = some (.bool false) := (blk_cell BK130.out 7).trans rfl; have hcz26_8 : w24.cell? ⟨gb130, 8, none⟩ = some (.bool false) := (blk_cell BK130.out 8).trans rfl; have hcz26_9 : w24.cell? ⟨gb130, 9, none⟩ = some (.int .i64 0) := (blk_cell BK130.out 9).trans rfl; have hcz26_10 : w24.cell? ⟨gb130, 10, none⟩ = some (.slice none 0 0) := (blk_cell BK130.out 10).trans rfl; have hfz26_0 := blk_frozen BK130.out 0; have hfz26_1 := blk_frozen BK130.out 1; have hfz26_2 := blk_frozen BK130.out 2; have hfz26_3 := blk_frozen BK130.out 3; have hfz26_4 := blk_frozen BK130.out 4; have hfz26_5 := blk_frozen BK130.out 5; have hfz26_6 := blk_frozen BK130.out 6; have hfz26_7 := blk_frozen BK130.out 7; have hfz26_8 := blk_frozen BK130.out 8; have hfz26_9 := blk_frozen BK130.out 9; have hfz26_10 := blk_frozen BK130.out 10) | ((with_reducible refine gate_callee (f := 12) rfl ?_); refine goesL_ (some 22) rfl rfl Try.func12 (by kernel_rfl) rfl #[.agg #[.int .i64 ((rd_T50 l0_5 x7_1).f0), .int .i64 ((rd_T50 l0_5 x7_1).f1), .int .i64 ((rd_T50 l0_5 x7_1).f2), .int .i64 ((rd_T50 l0_5 x7_1).f3), .int .i64 ((rd_T50 l0_5 x7_1).f4), .int .i64 ((rd_T50 l0_5 x7_1).f5), .string ((rd_T50 l0_5 x7_1).f6), .bool ((rd_T50 l0_5 x7_1).f7), .bool ((rd_T50 l0_5 x7_1).f8), .int .i64 ((rd_T50 l0_5 x7_1).f9), .slice A129_10 ((rd_T50 l0_5 x7_1).f10).length c129_10]] rfl qm ?_; (with_reducible refine (spec_l08Name.calls ((rd_T50 l0_5 x7_1).f0) ((rd_T50 l0_5 x7_1).f1) ((rd_T50 l0_5 x7_1).f2) ((rd_T50 l0_5 x7_1).f3) ((rd_T50 l0_5 x7_1).f4) ((rd_T50 l0_5 x7_1).f5) ((rd_T50 l0_5 x7_1).f6) ((rd_T50 l0_5 x7_1).f7) ((rd_T50 l0_5 x7_1).f8) ((rd_T50 l0_5 x7_1).f9) _ _ ((rd_T50 l0_5 x7_1).f10) true _ ?side1 ?side2 A7.out).mono ?_); (case side1 => exact Kd.C_below HR129_10.out (qb2 HB.out GE128.out GE130.out)); (case side2 => exact HC129_10.out); rintro e w27 ⟨rfl, hb⟩; refine ⟨_, rfl, ?_⟩; have n0_ := Aside0.mk (blk_below (g := gb128) (o := .cells #[.slice A0_0 l0_0.length c0_0, .slice A0_1 l0_1.length c0_1, .slice A0_2 l0_2.length c0_2, .slice A0_3 l0_3.length c0_3, .slice A0_4 l0_4.length c0_4, .slice (some ad129) l0_5.length c0_5, .int .i64 a0_6] 41 (0, 0)) (by refine qK ?_; refine blk_far ?_ NB128_130.out _; refine qK ?_; refine blk_far ?_ NB128_130.out _; refine qK ?_; refine blk_far ?_ NB128_130.out _; refine qK ?_; refine blk_far ?_ NB128_130.out _; refine qK ?_; refine blk_far ?_ NB128_130.out _; refine qK ?_; refine blk_far ?_ NB128_130.out _; refine qK ?_; refine blk_far ?_ NB128_130.out _; refine qK ?_; refine blk_far ?_ NB128_130.out _; refine qK ?_; refine blk_far ?_ NB128_130.out _; refine qK ?_; refine blk_far ?_ NB128_130.out _; refine qK ?_; refine blk_far ?_ NB128_130.out _; refine qK ?_; exact BK128.out) hb); have n1_ := Aside0.mk (blk_below (g := gb130) (o := .cells #[.int .i64 ((rd_T50 l0_5 x7_1).f0), .int .i64 ((rd_T50 l0_5 x7_1).f1), .int .i64 ((rd_T50 l0_5 x7_1).f2), .int .i64 ((rd_T50 l0_5 x7_1).f3), .int .i64 ((rd_T50 l0_5 x7_1).f4), .int .i64 ((rd_T50 l0_5 x7_1).f5), .string ((rd_T50 l0_5 x7_1).f6), .bool ((rd_T50 l0_5 x7_1).f7), .bool ((rd_T50 l0_5 x7_1).f8), .int .i64 ((rd_T50 l0_5 x7_1).f9), .slice A129_10 ((rd_T50 l0_5 x7_1).f10).length c129_10] 50 (0, 0)) (by refine qK ?_; refine blk_put (cs := #[.int .i64 ((rd_T50 l0_5 x7_1).f0), .int .i64 ((rd_T50 l0_5 x7_1).f1), .int .i64 ((rd_T50 l0_5 x7_1).f2), .int .i64 ((rd_T50 l0_5 x7_1).f3), .int .i64 ((rd_T50 l0_5 x7_1).f4), .int .i64 ((rd_T50 l0_5 x7_1).f5), .string ((rd_T50 l0_5 x7_1).f6), .bool ((rd_T50 l0_5 x7_1).f7), .bool ((rd_T50 l0_5 x7_1).f8), .int .i64 ((rd_T50 l0_5 x7_1).f9), .slice none 0 0]) ?_ 10 _ rfl; refine qK ?_; refine blk_put (cs := #[.int .i64 ((rd_T50 l0_5 x7_1).f0), .int .i64 ((rd_T50 l0_5 x7_1).f1), .int .i64 ((rd_T50 l0_5 x7_1).f2), .int .i64 ((rd_T50 l0_5 x7_1).f3), .int .i64 ((rd_T50 l0_5 x7_1).f4), .int .i64 ((rd_T50 l0_5 x7_1).f5), .string ((rd_T50 l0_5 x7_1).f6), .bool ((rd_T50 l0_5 x7_1).f7), .bool ((rd_T50 l0_5 x7_1).f8), .int .i64 0, .slice none 0 0]) ?_ 9 _ rfl; refine qK ?_; refine blk_put (cs := #[.int .i64 ((rd_T50 l0_5 x7_1).f0), .int .i64 ((rd_T50 l0_5 x7_1).f1), .int .i64 ((rd_T50 l0_5 x7_1).f2), .int .i64 ((rd_T50 l0_5 x7_1).f3), .int .i64 ((rd_T50 l0_5 x7_1).f4), .int .i64 ((rd_T50 l0_5 x7_1).f5), .string ((rd_T50 l0_5 x7_1).f6), .bool ((rd_T50 l0_5 x7_1).f7), .bool false, .int .i64 0, .slice none 0 0]) ?_ 8 _ rfl; refine qK ?_; refine blk_put (cs := #[.int .i64 ((rd_T50 l0_5 x7_1).f0), .int .i64 ((rd_T50 l0_5 x7_1).f1), .int .i64 ((rd_T50 l0_5 x7_1).f2), .int .i64 ((rd_T50 l0_5 x7_1).f3), .int .i64 ((rd_T50 l0_5 x7_1).f4), .int .i64 ((rd_T50 l0_5 x7_1).f5), .string ((rd_T50 l0_5 x7_1).f6), .bool false, .bool false, .int .i64 0, .slice none 0 0]) ?_ 7 _ rfl; refine qK ?_; refine blk_put (cs := #[.int .i64 ((rd_T50 l0_5 x7_1).f0), .int .i64 ((rd_T50 l0_5 x7_1).f1), .int .i64 ((rd_T50 l0_5 x7_1).f2), .int .i64 ((rd_T50 l0_5 x7_1).f3), .int .i64 ((rd_T50 l0_5 x7_1).f4), .int .i64 ((rd_T50 l0_5 x7_1).f5), .string (⟨#[]⟩ : ByteArray), .bool false, .bool false, .int .i64 0, .slice none 0 0]) ?_ 6 _ rfl; refine qK ?_; refine blk_put (cs := #[.int .i64 ((rd_T50 l0_5 x7_1).f0), .int .i64 ((rd_T50 l0_5 x7_1).f1), .int .i64 ((rd_T50 l0_5 x7_1).f2), .int .i64 ((rd_T50 l0_5 x7_1).f3), .int .i64 ((rd_T50 l0_5 x7_1).f4), .int .i64 0, .string (⟨#[]⟩ : ByteArray), .bool false, .bool false, .int .i64 0, .slice none 0 0]) ?_ 5 _ rfl; refine qK ?_; refine blk_put (cs := #[.int .i64 ((rd_T50 l0_5 x7_1).f0), .int .i64 ((rd_T50 l0_5 x7_1).f1), .int .i64 ((rd_T50 l0_5 x7_1).f2), .int .i64 ((rd_T50 l0_5 x7_1).f3), .int .i64 0, .int .i64 0, .string (⟨#[]⟩ : ByteArray), .bool false, .bool false, .int .i64 0, .slice none 0 0]) ?_ 4 _ rfl; refine qK ?_; refine blk_put (cs := #[.int .i64 ((rd_T50 l0_5 x7_1).f0), .int .i64 ((rd_T50 l0_5 x7_1).f1), .int .i64 ((rd_T50 l0_5 x7_1).f2), .int .i64 0, .int .i64 0, .int .i64 0, .string (⟨#[]⟩ : ByteArray), .bool false, .bool false, .int .i64 0, .slice none 0 0]) ?_ 3 _ rfl; refine qK ?_; refine blk_put (cs := #[.int .i64 ((rd_T50 l0_5 x7_1).f0), .int .i64 ((rd_T50 l0_5 x7_1).f1), .int .i64 0, .int .i64 0, .int .i64 0, .int .i64 0, .string (⟨#[]⟩ : ByteArray), .bool false, .bool false, .int .i64 0, .slice none 0 0]) ?_ 2 _ rfl; refine qK ?_; refine blk_put (cs := #[.int .i64 ((rd_T50 l0_5 x7_1).f0), .int .i64 0, .int .i64 0, .int .i64 0, .int .i64 0, .int .i64 0, .string (⟨#[]⟩ : ByteArray), .bool false, .bool false, .int .i64 0, .slice none 0 0]) ?_ 1 _ rfl; refine qK ?_; refine blk_put (cs := #[.int .i64 0, .int .i64 0, .int .i64 0, .int .i64 0, .int .i64 0, .int .i64 0, .string (⟨#[]⟩ : ByteArray), .bool false, .bool false, .int .i64 0, .slice none 0 0]) ?_ 0 _ rfl; refine qK ?_; exact BK130.out) hb); have n2_ := Aside0.mk (below_step (qb2 HB.out GE128.out GE130.out) hb); clear BK128; clear BK130; clear HB; have BK128 := n0_; have BK130 := n1_; have HB := n2_; clear n0_ n1_ n2_; (try clear hb); (try clear hb2); (try clear hk); (try clear hi); have hcz28_0 : w27.cell? ⟨gb130, 0, none⟩ = some (.int .i64 ((rd_T50 l0_5 x7_1).f0)) := (blk_cell BK130.out 0).trans rfl; have hcz28_1 : w27.cell? ⟨gb130, 1, none⟩ = some (.int .i64 ((rd_T50 l0_5 x7_1).f1)) := (blk_cell BK130.out 1).trans rfl; have hcz28_2 : w27.cell? ⟨gb130, 2, none⟩ = some (.int .i64 ((rd_T50 l0_5 x7_1).f2)) := (blk_cell BK130.out 2).trans rfl; have hcz28_3 : w27.cell? ⟨gb130, 3, none⟩ = some (.int .i64 ((rd_T50 l0_5 x7_1).f3)) := (blk_cell BK130.out 3).trans rfl; have hcz28_4 : w27.cell? ⟨gb130, 4, none⟩ = some (.int .i64 ((rd_T50 l0_5 x7_1).f4)) := (blk_cell BK130.out 4).trans rfl; have hcz28_5 : w27.cell? ⟨gb130, 5, none⟩ = some (.int .i64 ((rd_T50 l0_5 x7_1).f5)) := (blk_cell BK130.out 5).trans rfl; have hcz28_6 : w27.cell? ⟨gb130, 6, none⟩ = some (.string ((rd_T50 l0_5 x7_1).f6)) := (blk_cell BK130.out 6).trans rfl; have hcz28_7 : w27.cell? ⟨gb130, 7, none⟩ = some (.bool ((rd_T50 l0_5 x7_1).f7)) := (blk_cell BK130.out 7).trans rfl; have hcz28_8 : w27.cell? ⟨gb130, 8, none⟩ = some (.bool ((rd_T50 l0_5 x7_1).f8)) := (blk_cell BK130.out 8).trans rfl; have hcz28_9 : w27.cell? ⟨gb130, 9, none⟩ = some (.int .i64 ((rd_T50 l0_5 x7_1).f9)) := (blk_cell BK130.out 9).trans rfl; have hcz28_10 : w27.cell? ⟨gb130, 10, none⟩ = some (.slice A129_10 ((rd_T50 l0_5 x7_1).f10).length c129_10) := (blk_cell BK130.out 10).trans rfl; have hfz28_0 := blk_frozen BK130.out 0; have hfz28_1 := blk_frozen BK130.out 1; have hfz28_2 := blk_frozen BK130.out 2; have hfz28_3 := blk_frozen BK130.out 3; have hfz28_4 := blk_frozen BK130.out 4; have hfz28_5 := blk_frozen BK130.out 5; have hfz28_6 := blk_frozen BK130.out 6; have hfz28_7 := blk_frozen BK130.out 7; have hfz28_8 := blk_frozen BK130.out 8; have hfz28_9 := blk_frozen BK130.out 9; have hfz28_10 := blk_frozen BK130.out 10))
       go_roundg k1
       case measure => have := HK1.out; omega
       case rel => exact ⟨(wrap64 (x7_1 + 1)), qz, H', ⟨by have := HK1.out; omega⟩, ⟨qk BK128.out⟩, ⟨qb2 HB.out GE128.out GE130.out⟩⟩
     ·replace c8 := Bool.eq_false_iff.mpr c8
      subst c8
      have H1 : (spec_DepAt.l0 k1 a1 a2 (wrap64 (x7_1 + 1)) l0_0 l0_1 l0_2 l0_3 l0_4 l0_5 a0_6) = some r := by rw [if_neg (show ¬ (false = true) by decide)] at H; exact H
      clear H
      have H := H1
      clear H1
      have H' := Aside0.mk H
      clear H
      have hcz29_0 : wr.cell? ⟨gb128, 0, none⟩ = some (.slice A0_0 l0_0.length c0_0) := (blk_cell BK128.out 0).trans rfl
      have hcz29_1 : wr.cell? ⟨gb128, 1, none⟩ = some (.slice A0_1 l0_1.length c0_1) := (blk_cell BK128.out 1).trans rfl
      have hcz29_2 : wr.cell? ⟨gb128, 2, none⟩ = some (.slice A0_2 l0_2.length c0_2) := (blk_cell BK128.out 2).trans rfl
      have hcz29_3 : wr.cell? ⟨gb128, 3, none⟩ = some (.slice A0_3 l0_3.length c0_3) := (blk_cell BK128.out 3).trans rfl
      have hcz29_4 : wr.cell? ⟨gb128, 4, none⟩ = some (.slice A0_4 l0_4.length c0_4) := (blk_cell BK128.out 4).trans rfl
      have hcz29_5 : wr.cell? ⟨gb128, 5, none⟩ = some (.slice A0_5 l0_5.length c0_5) := (blk_cell BK128.out 5).trans rfl
      have hcz29_6 : wr.cell? ⟨gb128, 6, none⟩ = some (.int .i64 a0_6) := (blk_cell BK128.out 6).trans rfl
      have hfz29_0 := blk_frozen BK128.out 0
      have hfz29_1 := blk_frozen BK128.out 1
      have hfz29_2 := blk_frozen BK128.out 2
      have hfz29_3 := blk_frozen BK128.out 3
      have hfz29_4 := blk_frozen BK128.out 4
      have hfz29_5 := blk_frozen BK128.out 5
      have hfz29_6 := blk_frozen BK128.out 6
      have p129 : 0 ≤ (x7_1 : Int) := qo
      have q129 : x7_1 < (l0_5.length : Int) := qo
      obtain ⟨ad129, A129_10, c129_10, e129, hx129_0, hx129_1, hx129_2, hx129_3, hx129_4, hx129_5, hx129_6, hx129_7, hx129_8, hx129_9, hx129_10, hl129_10, hi129_10⟩ := at_T50 HR0_5.out x7_1 p129 q129
      cases e129
      replace hx129_0 := qc HB.out hx129_0
      replace hx129_1 := qc HB.out hx129_1
      replace hx129_2 := qc HB.out hx129_2
      replace hx129_3 := qc HB.out hx129_3
      replace hx129_4 := qc HB.out hx129_4
      replace hx129_5 := qc HB.out hx129_5
      replace hx129_6 := qc HB.out hx129_6
      replace hx129_7 := qc HB.out hx129_7
      replace hx129_8 := qc HB.out hx129_8
      replace hx129_9 := qc HB.out hx129_9
      replace hx129_10 := qc HB.out hx129_10
      have HR129_10 := Aside0.mk hi129_10
      have HC129_10 := Aside0.mk hl129_10
      clear hi129_10 hl129_10
      replace p129 := eq_true p129
      replace q129 := eq_true q129
      go_wp2_with (first | ((with_reducible refine gate_dst (N := 8) rfl ?_); refine box_event ?hg (N := 8) ?hd (cs := #[.int .i64 0, .int .i64 0, .int .i64 0, .int .i64 0, .int .i64 0, .int .i64 0, .string (⟨#[]⟩ : ByteArray), .bool false, .bool false, .int .i64 0, .slice none 0 0]) (t := 50) ?hr ?_; (case hd => rfl); (case hg => rfl); (case hr => first | (go_simp; done) | (go_simp; rfl)); intro gb130 hg w30 hbox hb; have n0_ := Aside0.mk (blk_below (g := gb128) (o := .cells #[.slice A0_0 l0_0.length c0_0, .slice A0_1 l0_1.length c0_1, .slice A0_2 l0_2.length c0_2, .slice A0_3 l0_3.length c0_3, .slice A0_4 l0_4.length c0_4, .slice (some ad129) l0_5.length c0_5, .int .i64 a0_6] 41 (0, 0)) (qk BK128.out) hb); have n1_ := Aside0.mk (below_step (qb1 HB.out GE128.out) hb); have n2_ := Aside0.mk (hbox); have n3_ := Aside0.mk ((by rw [hg]; exact (below_size (qb1 HB.out GE128.out)) : w.heap.size ≤ gb130)); have n4_ := Aside0.mk ((by rw [hg]; exact (below_size (qb1 HB.out GE128.out)) : w.heap.size ≤ gb130)); have n5_ := Aside0.mk ((by rw [hg]; exact Nat.ne_of_lt (blk_lt (g := gb128) (o := .cells #[.slice A0_0 l0_0.length c0_0, .slice A0_1 l0_1.length c0_1, .slice A0_2 l0_2.length c0_2, .slice A0_3 l0_3.length c0_3, .slice A0_4 l0_4.length c0_4, .slice (some ad129) l0_5.length c0_5, .int .i64 a0_6] 41 (0, 0)) (qk BK128.out)) : gb128 ≠ gb130)); have n6_ := Aside0.mk ((by rw [hg]; exact Nat.ne_of_gt (blk_lt (g := gb128) (o := .cells #[.slice A0_0 l0_0.length c0_0, .slice A0_1 l0_1.length c0_1, .slice A0_2 l0_2.length c0_2, .slice A0_3 l0_3.length c0_3, .slice A0_4 l0_4.length c0_4, .slice (some ad129) l0_5.length c0_5, .int .i64 a0_6] 41 (0, 0)) (qk BK128.out)) : gb130 ≠ gb128)); clear BK128; clear HB; have BK128 := n0_; have HB := n1_; have BK130 := n2_; have GW130 := n3_; have GE130 := n4_; have NB128_130 := n5_; have NB130_128 := n6_; clear n0_ n1_ n2_ n3_ n4_ n5_ n6_; clear hb hbox hg; have hnb31 := NB130_128.out; have hnc31 := NB128_130.out; have hcz32_0 : w30.cell? ⟨gb130, 0, none⟩ = some (.int .i64 0) := (blk_cell BK130.out 0).trans rfl; have hcz32_1 : w30.cell? ⟨gb130, 1, none⟩ = some (.int .i64 0) := (blk_cell BK130.out 1).trans rfl; have hcz32_2 : w30.cell? ⟨gb130, 2, none⟩ = some (.int .i64 0) := (blk_cell BK130.out 2).trans rfl; have hcz32_3 : w30.cell? ⟨gb130, 3, none⟩ = some (.int .i64 0) := (blk_cell BK130.out 3).trans rfl; have hcz32_4 : w30.cell? ⟨gb130, 4, none⟩ = some (.int .i64 0) := (blk_cell BK130.out 4).trans rfl; have hcz32_5 : w30.cell? ⟨gb130, 5, none⟩ = some (.int .i64 0) := (blk_cell BK130.out 5).trans rfl; have hcz32_6 : w30.cell? ⟨gb130, 6, none⟩ = some (.string (⟨#[]⟩ : ByteArray)) := (blk_cell BK130.out 6).trans rfl; have hcz32_7 : w30.cell? ⟨gb130, 7, none⟩ = some (.bool false) := (blk_cell BK130.out 7).trans rfl; have hcz32_8 : w30.cell? ⟨gb130, 8, none⟩ = some (.bool false) := (blk_cell BK130.out 8).trans rfl; have hcz32_9 : w30.cell? ⟨gb130, 9, none⟩ = some (.int .i64 0) := (blk_cell BK130.out 9).trans rfl; have hcz32_10 : w30.cell? ⟨gb130, 10, none⟩ = some (.slice none 0 0) := (blk_cell BK130.out 10).trans rfl; have hfz32_0 := blk_frozen BK130.out 0; have hfz32_1 := blk_frozen BK130.out 1; have hfz32_2 := blk_frozen BK130.out 2; have hfz32_3 := blk_frozen BK130.out 3; have hfz32_4 := blk_frozen BK130.out 4; have hfz32_5 := blk_frozen BK130.out 5; have hfz32_6 := blk_frozen BK130.out 6; have hfz32_7 := blk_frozen BK130.out 7; have hfz32_8 := blk_frozen BK130.out 8; have hfz32_9 := blk_frozen BK130.out 9; have hfz32_10 := blk_frozen BK130.out 10) | ((with_reducible refine gate_callee (f := 12) rfl ?_); refine goesL_ (some 22) rfl rfl Try.func12 (by kernel_rfl) rfl #[.agg #[.int .i64 ((rd_T50 l0_5 x7_1).f0), .int .i64 ((rd_T50 l0_5 x7_1).f1), .int .i64 ((rd_T50 l0_5 x7_1).f2), .int .i64 ((rd_T50 l0_5 x7_1).f3), .int .i64 ((rd_T50 l0_5 x7_1).f4), .int .i64 ((rd_T50 l0_5 x7_1).f5), .string ((rd_T50 l0_5 x7_1).f6), .bool ((rd_T50 l0_5 x7_1).f7), .bool ((rd_T50 l0_5 x7_1).f8), .int .i64 ((rd_T50 l0_5 x7_1).f9), .slice A129_10 ((rd_T50 l0_5 x7_1).f10).length c129_10]] rfl qm ?_; (with_reducible refine (spec_l08Name.calls ((rd_T50 l0_5 x7_1).f0) ((rd_T50 l0_5 x7_1).f1) ((rd_T50 l0_5 x7_1).f2) ((rd_T50 l0_5 x7_1).f3) ((rd_T50 l0_5 x7_1).f4) ((rd_T50 l0_5 x7_1).f5) ((rd_T50 l0_5 x7_1).f6) ((rd_T50 l0_5 x7_1).f7) ((rd_T50 l0_5 x7_1).f8) ((rd_T50 l0_5 x7_1).f9) _ _ ((rd_T50 l0_5 x7_1).f10) false _ ?side1 ?side2 A7.out).mono ?_); (case side1 => exact Kd.C_below HR129_10.out (qb2 HB.out GE128.out GE130.out)); (case side2 => exact HC129_10.out); rintro e w33 ⟨rfl, hb⟩; refine ⟨_, rfl, ?_⟩; have n0_ := Aside0.mk (blk_below (g := gb128) (o := .cells #[.slice A0_0 l0_0.length c0_0, .slice A0_1 l0_1.length c0_1, .slice A0_2 l0_2.length c0_2, .slice A0_3 l0_3.length c0_3, .slice A0_4 l0_4.length c0_4, .slice (some ad129) l0_5.length c0_5, .int .i64 a0_6] 41 (0, 0)) (by refine qK ?_; refine blk_far ?_ NB128_130.out _; refine qK ?_; refine blk_far ?_ NB128_130.out _; refine qK ?_; refine blk_far ?_ NB128_130.out _; refine qK ?_; refine blk_far ?_ NB128_130.out _; refine qK ?_; refine blk_far ?_ NB128_130.out _; refine qK ?_; refine blk_far ?_ NB128_130.out _; refine qK ?_; refine blk_far ?_ NB128_130.out _; refine qK ?_; refine blk_far ?_ NB128_130.out _; refine qK ?_; refine blk_far ?_ NB128_130.out _; refine qK ?_; refine blk_far ?_ NB128_130.out _; refine qK ?_; refine blk_far ?_ NB128_130.out _; refine qK ?_; exact BK128.out) hb); have n1_ := Aside0.mk (blk_below (g := gb130) (o := .cells #[.int .i64 ((rd_T50 l0_5 x7_1).f0), .int .i64 ((rd_T50 l0_5 x7_1).f1), .int .i64 ((rd_T50 l0_5 x7_1).f2), .int .i64 ((rd_T50 l0_5 x7_1).f3), .int .i64 ((rd_T50 l0_5 x7_1).f4), .int .i64 ((rd_T50 l0_5 x7_1).f5), .string ((rd_T50 l0_5 x7_1).f6), .bool ((rd_T50 l0_5 x7_1).f7), .bool ((rd_T50 l0_5 x7_1).f8), .int .i64 ((rd_T50 l0_5 x7_1).f9), .slice A129_10 ((rd_T50 l0_5 x7_1).f10).length c129_10] 50 (0, 0)) (by refine qK ?_; refine blk_put (cs := #[.int .i64 ((rd_T50 l0_5 x7_1).f0), .int .i64 ((rd_T50 l0_5 x7_1).f1), .int .i64 ((rd_T50 l0_5 x7_1).f2), .int .i64 ((rd_T50 l0_5 x7_1).f3), .int .i64 ((rd_T50 l0_5 x7_1).f4), .int .i64 ((rd_T50 l0_5 x7_1).f5), .string ((rd_T50 l0_5 x7_1).f6), .bool ((rd_T50 l0_5 x7_1).f7), .bool ((rd_T50 l0_5 x7_1).f8), .int .i64 ((rd_T50 l0_5 x7_1).f9), .slice none 0 0]) ?_ 10 _ rfl; refine qK ?_; refine blk_put (cs := #[.int .i64 ((rd_T50 l0_5 x7_1).f0), .int .i64 ((rd_T50 l0_5 x7_1).f1), .int .i64 ((rd_T50 l0_5 x7_1).f2), .int .i64 ((rd_T50 l0_5 x7_1).f3), .int .i64 ((rd_T50 l0_5 x7_1).f4), .int .i64 ((rd_T50 l0_5 x7_1).f5), .string ((rd_T50 l0_5 x7_1).f6), .bool ((rd_T50 l0_5 x7_1).f7), .bool ((rd_T50 l0_5 x7_1).f8), .int .i64 0, .slice none 0 0]) ?_ 9 _ rfl; refine qK ?_; refine blk_put (cs := #[.int .i64 ((rd_T50 l0_5 x7_1).f0), .int .i64 ((rd_T50 l0_5 x7_1).f1), .int .i64 ((rd_T50 l0_5 x7_1).f2), .int .i64 ((rd_T50 l0_5 x7_1).f3), .int .i64 ((rd_T50 l0_5 x7_1).f4), .int .i64 ((rd_T50 l0_5 x7_1).f5), .string ((rd_T50 l0_5 x7_1).f6), .bool ((rd_T50 l0_5 x7_1).f7), .bool false, .int .i64 0, .slice none 0 0]) ?_ 8 _ rfl; refine qK ?_; refine blk_put (cs := #[.int .i64 ((rd_T50 l0_5 x7_1).f0), .int .i64 ((rd_T50 l0_5 x7_1).f1), .int .i64 ((rd_T50 l0_5 x7_1).f2), .int .i64 ((rd_T50 l0_5 x7_1).f3), .int .i64 ((rd_T50 l0_5 x7_1).f4), .int .i64 ((rd_T50 l0_5 x7_1).f5), .string ((rd_T50 l0_5 x7_1).f6), .bool false, .bool false, .int .i64 0, .slice none 0 0]) ?_ 7 _ rfl; refine qK ?_; refine blk_put (cs := #[.int .i64 ((rd_T50 l0_5 x7_1).f0), .int .i64 ((rd_T50 l0_5 x7_1).f1), .int .i64 ((rd_T50 l0_5 x7_1).f2), .int .i64 ((rd_T50 l0_5 x7_1).f3), .int .i64 ((rd_T50 l0_5 x7_1).f4), .int .i64 ((rd_T50 l0_5 x7_1).f5), .string (⟨#[]⟩ : ByteArray), .bool false, .bool false, .int .i64 0, .slice none 0 0]) ?_ 6 _ rfl; refine qK ?_; refine blk_put (cs := #[.int .i64 ((rd_T50 l0_5 x7_1).f0), .int .i64 ((rd_T50 l0_5 x7_1).f1), .int .i64 ((rd_T50 l0_5 x7_1).f2), .int .i64 ((rd_T50 l0_5 x7_1).f3), .int .i64 ((rd_T50 l0_5 x7_1).f4), .int .i64 0, .string (⟨#[]⟩ : ByteArray), .bool false, .bool false, .int .i64 0, .slice none 0 0]) ?_ 5 _ rfl; refine qK ?_; refine blk_put (cs := #[.int .i64 ((rd_T50 l0_5 x7_1).f0), .int .i64 ((rd_T50 l0_5 x7_1).f1), .int .i64 ((rd_T50 l0_5 x7_1).f2), .int .i64 ((rd_T50 l0_5 x7_1).f3), .int .i64 0, .int .i64 0, .string (⟨#[]⟩ : ByteArray), .bool false, .bool false, .int .i64 0, .slice none 0 0]) ?_ 4 _ rfl; refine qK ?_; refine blk_put (cs := #[.int .i64 ((rd_T50 l0_5 x7_1).f0), .int .i64 ((rd_T50 l0_5 x7_1).f1), .int .i64 ((rd_T50 l0_5 x7_1).f2), .int .i64 0, .int .i64 0, .int .i64 0, .string (⟨#[]⟩ : ByteArray), .bool false, .bool false, .int .i64 0, .slice none 0 0]) ?_ 3 _ rfl; refine qK ?_; refine blk_put (cs := #[.int .i64 ((rd_T50 l0_5 x7_1).f0), .int .i64 ((rd_T50 l0_5 x7_1).f1), .int .i64 0, .int .i64 0, .int .i64 0, .int .i64 0, .string (⟨#[]⟩ : ByteArray), .bool false, .bool false, .int .i64 0, .slice none 0 0]) ?_ 2 _ rfl; refine qK ?_; refine blk_put (cs := #[.int .i64 ((rd_T50 l0_5 x7_1).f0), .int .i64 0, .int .i64 0, .int .i64 0, .int .i64 0, .int .i64 0, .string (⟨#[]⟩ : ByteArray), .bool false, .bool false, .int .i64 0, .slice none 0 0]) ?_ 1 _ rfl; refine qK ?_; refine blk_put (cs := #[.int .i64 0, .int .i64 0, .int .i64 0, .int .i64 0, .int .i64 0, .int .i64 0, .string (⟨#[]⟩ : ByteArray), .bool false, .bool false, .int .i64 0, .slice none 0 0]) ?_ 0 _ rfl; refine qK ?_; exact BK130.out) hb); have n2_ := Aside0.mk (below_step (qb2 HB.out GE128.out GE130.out) hb); clear BK128; clear BK130; clear HB; have BK128 := n0_; have BK130 := n1_; have HB := n2_; clear n0_ n1_ n2_; (try clear hb); (try clear hb2); (try clear hk); (try clear hi)))
      go_roundg k1
      case measure => have := HK1.out; omega
      case rel => exact ⟨(wrap64 (x7_1 + 1)), qz, H', ⟨by have := HK1.out; omega⟩, ⟨qk BK128.out⟩, ⟨qb2 HB.out GE128.out GE130.out⟩⟩
    ·rw [if_neg c6] at H
     exact absurd H (by simp)
   ·rw [if_neg c5] at H
    have c5b0 : decide (x7_1 < (l0_5.length : Int)) = false := decide_eq_false c5
    clear c5
    obtain rfl := Option.some.inj H
    have hcz34_0 : wr.cell? ⟨gb128, 0, none⟩ = some (.slice A0_0 l0_0.length c0_0) := (blk_cell BK128.out 0).trans rfl
    have hcz34_1 : wr.cell? ⟨gb128, 1, none⟩ = some (.slice A0_1 l0_1.length c0_1) := (blk_cell BK128.out 1).trans rfl
    have hcz34_2 : wr.cell? ⟨gb128, 2, none⟩ = some (.slice A0_2 l0_2.length c0_2) := (blk_cell BK128.out 2).trans rfl
    have hcz34_3 : wr.cell? ⟨gb128, 3, none⟩ = some (.slice A0_3 l0_3.length c0_3) := (blk_cell BK128.out 3).trans rfl
    have hcz34_4 : wr.cell? ⟨gb128, 4, none⟩ = some (.slice A0_4 l0_4.length c0_4) := (blk_cell BK128.out 4).trans rfl
    have hcz34_5 : wr.cell? ⟨gb128, 5, none⟩ = some (.slice A0_5 l0_5.length c0_5) := (blk_cell BK128.out 5).trans rfl
    have hcz34_6 : wr.cell? ⟨gb128, 6, none⟩ = some (.int .i64 a0_6) := (blk_cell BK128.out 6).trans rfl
    have hfz34_0 := blk_frozen BK128.out 0
    have hfz34_1 := blk_frozen BK128.out 1
    have hfz34_2 := blk_frozen BK128.out 2
    have hfz34_3 := blk_frozen BK128.out 3
    have hfz34_4 := blk_frozen BK128.out 4
    have hfz34_5 := blk_frozen BK128.out 5
    have hfz34_6 := blk_frozen BK128.out 6
    go_wp2
    go_ret
    exact ⟨qe, qb1 HB.out GE128.out⟩

/-! ### laws_toBoolS: function 14 -/
def laws_toBoolS.l0 : Nat → List Bool → List Bool → Int → Option (List Bool)
 | 0, _, _, _ => none
 | k + 1, x0, x3, x4 => if x4 < (x0.length : Int) then (if 0 ≤ x4 then (if x4 < (x3.length : Int) then (laws_toBoolS.l0 k x0 (x3.set (x4 : Int).toNat (rdOf false x0 x4)) (wrap64 (x4 + 1))) else (none)) else (none)) else (some x3)
def laws_toBoolS.f (k : Nat) (l0 : List Bool) : Option (List Bool) := if 0 ≤ (l0.length : Int) then (if ((l0.length : Int) : Int).toNat ≤ 281474976710656 then (laws_toBoolS.l0 k l0 (List.replicate ((l0.length : Int) : Int).toNat false) 0) else (none)) else (none)
theorem laws_toBoolS.mono_l : ∀ k, (∀ y0 y1 y2, LeO (laws_toBoolS.l0 k y0 y1 y2) (laws_toBoolS.l0 (k + 1) y0 y1 y2))
 | 0 => fun _ _ _ r h => by simp [laws_toBoolS.l0] at h
 | k + 1 => by
  have ih0 := laws_toBoolS.mono_l k
  ·intro y0 y1 y2
   unfold laws_toBoolS.l0
   repeat' first
   | (with_reducible exact ih0 _ _ _)
   | with_reducible first | exact LeO.refl _ | exact LeO.none _ | refine LeO.ite ?_ ?_ | refine LeO.bind ?_ (fun _ => ?_)
   | exact ih0 _ _ _
   | exact LeO.none _
   | refine LeO.ite ?_ ?_
   | refine LeO.bind ?_ (fun _ => ?_)
theorem laws_toBoolS.mono : ∀ a0 k, LeO (laws_toBoolS.f k a0) (laws_toBoolS.f (k + 1) a0) := by
 intro a0 k
 have ih0 := laws_toBoolS.mono_l k
 unfold laws_toBoolS.f
 repeat' first
   | (with_reducible exact ih0 _ _ _)
   | with_reducible first | exact LeO.refl _ | exact LeO.none _ | refine LeO.ite ?_ ?_ | refine LeO.bind ?_ (fun _ => ?_)
   | exact ih0 _ _ _
   | exact LeO.none _
   | refine LeO.ite ?_ ?_
   | refine LeO.bind ?_ (fun _ => ?_)
set_option maxHeartbeats 8000000 in
set_option maxRecDepth 100000 in
theorem laws_toBoolS.calls (k : Nat) (A0 : Option Addr) (c0 : Nat) (l0 : List Bool) (r : List Bool) (w : World) (hr0 : Kd.C Kd.bool w A0 l0.length l0) (hc0 : l0.length ≤ c0) (h : laws_toBoolS.f k l0 = some r) :
  Calls Try.prog 14 #[.slice A0 l0.length c0] w fun e w' => ∃ v0_ : Value, e = .returned (v0_) ∧ Kd.R Kd.bool 4 w' w.heap.size (fun _ => True) v0_ r ∧ Below w.heap.size w w' := by
 have HR0 := Aside0.mk hr0
 have HC0 := Aside0.mk hc0
 clear hr0 hc0
 have HB := Aside0.mk (Below.refl w.heap.size w)
 have H : (if 0 ≤ (l0.length : Int) then (if ((l0.length : Int) : Int).toNat ≤ 281474976710656 then (laws_toBoolS.l0 k l0 (List.replicate ((l0.length : Int) : Int).toNat false) 0) else (none)) else (none)) = some r := h
 clear h
 by_cases c2 : 0 ≤ (l0.length : Int)
 ·rw [if_pos c2] at H
  have c2b0 := eq_true c2
  have c2b1 : decide (0 ≤ (l0.length : Int)) = true := decide_eq_true c2
  clear c2
  by_cases c3 : ((l0.length : Int) : Int).toNat ≤ 281474976710656
  ·rw [if_pos c3] at H
   have c3b0 := eq_true c3
   have c3b1 : decide (((l0.length : Int) : Int).toNat ≤ 281474976710656) = true := decide_eq_true c3
   clear c3
   obtain ⟨y132, hy132⟩ : ∃ y_ : List Bool, y_ = (List.replicate ((l0.length : Int) : Int).toNat false) := ⟨_, rfl⟩
   replace H : (laws_toBoolS.l0 k l0 y132 0) = some r := by first | (rw [hy132]; with_reducible exact H) | (have H2_ := (Option.bind_some _ _).symm.trans H; rw [hy132]; with_reducible exact H2_) | (have H2_ := (Option.bind_some _ _).symm.trans H; with_reducible exact H2_) | with_reducible exact H | (rw [hy132]; exact H) | exact H
   have Ny132 := Aside0.mk hy132
   clear hy132
   have H' := Aside0.mk H
   clear H
   go_enter Try.func14, Try.ntmps14
   go_wp2_with (first | ((with_reducible refine gate_dst (N := 7) rfl ?_); refine Kd.R_make Kd.bool _ 4 rfl (N := 7) rfl 22 _ _ rfl (l0.length : Int) rfl rfl Try.underlying22 (.bool false) 1 info4 rfl (by decide) (by omega) false (ok := fun _ => True) (okp := fun _ => True) rfl (fun _ hk => hk) trivial qo (Nat.le_trans (Nat.mul_le_mul_right _ (qo : (l0.length : Int).toNat ≤ 281474976710656)) (by omega)) (Below.refl _ _) (Nat.le_refl _) ?_; intro v133 w4 ho5 hb hg_ hnew_; clear hg_ hnew_; (first | rw [← Ny132.out] at ho5 | (simp only [Int.reduceToNat] at ho5; rw [← Ny132.out] at ho5)); have n0_ := Aside0.mk (Kd.R_lower ho5 (below_size (qb HB.out))); have n1_ := Aside0.mk (below_step (qb HB.out) hb); clear HB; have HO134 := n0_; have HB := n1_; clear n0_ n1_; clear hb ho5))
   go_loopg [4] k (fun kq v4 w' => ∃ (x3_1 : List Bool) (x4_1 : Int), v4 = .int .i64 x4_1 ∧ Aside0 (laws_toBoolS.l0 kq l0 x3_1 x4_1 = some r) ∧ Aside0 (kq ≤ k) ∧ Aside0 (Kd.R Kd.bool 4 w' w.heap.size (fun _ => True) v133 x3_1) ∧ Aside0 (Below w.heap.size w w'))
   case atStart => exact ⟨(y132), (0), qz, H', ⟨Nat.le_refl _⟩, ⟨qr HO134.out⟩, ⟨qb HB.out⟩⟩
   case round =>
    clear H'
    try clear c1
    try clear c2
    try clear c2b0
    try clear c2b1
    try clear p2
    try clear c3
    try clear c3b0
    try clear c3b1
    obtain ⟨x3_1, x4_1, rfl, HA, HK1, HO_3, HB⟩ := hrel
    cases gk with
    | zero => exact absurd HA.out (by simp [laws_toBoolS.l0])
    | succ k1 =>
     have H := HA.out
     clear HA
     simp only [laws_toBoolS.l0] at H
     by_cases c6 : x4_1 < (l0.length : Int)
     ·rw [if_pos c6] at H
      have c6b0 : decide (x4_1 < (l0.length : Int)) = true := decide_eq_true c6
      clear c6
      by_cases c7 : 0 ≤ x4_1
      ·rw [if_pos c7] at H
       have c7b0 : decide (0 ≤ x4_1) = true := decide_eq_true c7
       clear c7
       by_cases c8 : x4_1 < (x3_1.length : Int)
       ·rw [if_pos c8] at H
        have c8b0 : decide (x4_1 < (x3_1.length : Int)) = true := decide_eq_true c8
        clear c8
        obtain ⟨y136, hy136⟩ : ∃ y_ : List Bool, y_ = (x3_1.set (x4_1 : Int).toNat (rdOf false l0 x4_1)) := ⟨_, rfl⟩
        replace H : (laws_toBoolS.l0 k1 l0 y136 (wrap64 (x4_1 + 1))) = some r := by first | (rw [hy136]; with_reducible exact H) | (have H2_ := (Option.bind_some _ _).symm.trans H; rw [hy136]; with_reducible exact H2_) | (have H2_ := (Option.bind_some _ _).symm.trans H; with_reducible exact H2_) | with_reducible exact H | (rw [hy136]; exact H) | exact H
        have Ny136 := Aside0.mk hy136
        clear hy136
        have H' := Aside0.mk H
        clear H
        have p135 : 0 ≤ (x4_1 : Int) := qo
        have q135 : x4_1 < (l0.length : Int) := qo
        obtain ⟨ad135, e135, hx135_0⟩ := Kd.at_bool HR0.out x4_1 p135 q135
        cases e135
        replace hx135_0 := qc HB.out hx135_0
        replace p135 := eq_true p135
        replace q135 := eq_true q135
        have p9 : 0 ≤ (x4_1 : Int) := qo
        have q9 : (x4_1 : Int) < ((x3_1.length : Int) : Int) := qo
        obtain ⟨go9, co9, eo9, gb9, gl9, cl9, HG9⟩ := Kd.R_form HO_3.out (by omega)
        (first | cases eo9 | (injection eo9 with ea_ en_ ec_; (first | subst ea_ | (injection ea_ with ea_; subst ea_)); subst ec_; clear en_))
        have GB9 := Aside0.mk gb9
        have GG9 := Aside0.mk HG9
        clear gb9 gl9 HG9
        obtain ⟨hx9_0, hf9_0⟩ := Kd.R_celln false HO_3.out (x4_1 : Int) p9 q9
        replace p9 := eq_true p9
        replace q9 := eq_true q9
        have HP10 := Kd.R_putg HO_3.out (x4_1 : Int) (rdOf false l0 x4_1)
        go_wp2_with (first | ((with_reducible refine gate_store (t := 4) (p := 20) rfl ?_); refine store_event (t := 4) (p := 20) (v := ?vo_w11) (w1 := (wr.setCell ⟨go9, (x4_1 : Int).toNat, none⟩ (.bool (rdOf false l0 x4_1)))) ?hg ?ho ?hn ?hr ?_; (case ho => rfl); (case hg => rfl); (case hn => rfl); (case hr => first | (go_simp; done) | (go_simp; rfl)); intro w11 hw; have hg : wr.grownBy w11 (some go9) := (by rw [hw]; exact HP10.2); have hp_ : Kd.R Kd.bool 4 w11 w.heap.size (fun _ => True) (.slice (some ⟨go9, 0, none⟩) x3_1.length co9) y136 := (by rw [hw, Ny136.out]; exact HP10.1); clear HP10; have n0_ := Aside0.mk (hp_); have n1_ := Aside0.mk ((by rw [hw]; exact below_set (HB.out) GB9.out : Below w.heap.size w w11)); clear HO_3; clear HB; have HO_3 := n0_; have HB := n1_; clear n0_ n1_; clear hg hw hp_))
        go_roundg k1
        case measure => have := HK1.out; omega
        case rel => exact ⟨(y136), (wrap64 (x4_1 + 1)), qz, H', ⟨by have := HK1.out; omega⟩, ⟨qr HO_3.out⟩, ⟨qb HB.out⟩⟩
       ·rw [if_neg c8] at H
        exact absurd H (by simp)
      ·rw [if_neg c7] at H
       exact absurd H (by simp)
     ·rw [if_neg c6] at H
      have c6b0 : decide (x4_1 < (l0.length : Int)) = false := decide_eq_false c6
      clear c6
      obtain rfl := Option.some.inj H
      go_wp2
      go_ret
      exact ⟨_, qe, qr HO_3.out, qb HB.out⟩
  ·rw [if_neg c3] at H
   exact absurd H (by simp)
 ·rw [if_neg c2] at H
  exact absurd H (by simp)

/-! ### laws_toBits: function 24 -/
def laws_toBits.f (k : Nat) (l0_0 : List Bool) (l0_1 : List Bool) : Option (List Bool × List Bool) := (laws_toBoolS.f k l0_0).bind fun t140 => ((laws_toBoolS.f k l0_1).bind fun t143 => (some (t140, t143)))
theorem laws_toBits.mono : ∀ a0 a1 k, LeO (laws_toBits.f k a0 a1) (laws_toBits.f (k + 1) a0 a1) := by
 intro a0 a1 k
 unfold laws_toBits.f
 repeat' first
   | (with_reducible exact laws_toBoolS.mono _ _)
   | with_reducible first | exact LeO.refl _ | exact LeO.none _ | refine LeO.ite ?_ ?_ | refine LeO.bind ?_ (fun _ => ?_)
   | exact laws_toBoolS.mono _ _
   | exact LeO.none _
   | refine LeO.ite ?_ ?_
   | refine LeO.bind ?_ (fun _ => ?_)
set_option maxHeartbeats 8000000 in
set_option maxRecDepth 100000 in
theorem laws_toBits.calls (k : Nat) (A0_0 : Option Addr) (c0_0 : Nat) (l0_0 : List Bool) (A0_1 : Option Addr) (c0_1 : Nat) (l0_1 : List Bool) (r1 : List Bool) (r2 : List Bool) (w : World) (hr0_0 : Kd.C Kd.bool w A0_0 l0_0.length l0_0) (hc0_0 : l0_0.length ≤ c0_0) (hr0_1 : Kd.C Kd.bool w A0_1 l0_1.length l0_1) (hc0_1 : l0_1.length ≤ c0_1) (h : laws_toBits.f k l0_0 l0_1 = some (r1, r2)) :
  Calls Try.prog 24 #[.agg #[.slice A0_0 l0_0.length c0_0, .slice A0_1 l0_1.length c0_1]] w fun e w' => ∃ v0_ v1_ : Value, e = .returned (.agg #[v0_, v1_]) ∧ Kd.R Kd.bool 4 w' w.heap.size (fun k_ => some k_ ≠ (v1_ : Value).ownBlock) v0_ r1 ∧ Kd.R Kd.bool 4 w' w.heap.size (fun k_ => some k_ ≠ (v0_ : Value).ownBlock) v1_ r2 ∧ Below w.heap.size w w' := by
 have hu24 := Try.underlying24
 have hu34 := Try.underlying34
 have HR0_0 := Aside0.mk hr0_0
 have HC0_0 := Aside0.mk hc0_0
 clear hr0_0 hc0_0
 have HR0_1 := Aside0.mk hr0_1
 have HC0_1 := Aside0.mk hc0_1
 clear hr0_1 hc0_1
 have HB := Aside0.mk (Below.refl w.heap.size w)
 have H : ((laws_toBoolS.f k l0_0).bind fun t140 => ((laws_toBoolS.f k l0_1).bind fun t143 => (some (t140, t143)))) = some (r1, r2) := h
 clear h
 replace H := Option.bind_eq_some_iff.mp H
 obtain ⟨t140, A20, H⟩ := H
 replace H : ((laws_toBoolS.f k l0_1).bind fun t143 => (some (t140, t143))) = some (r1, r2) := H
 have A2 := Aside0.mk A20
 clear A20
 replace H := Option.bind_eq_some_iff.mp H
 obtain ⟨t143, A30, H⟩ := H
 replace H : (some (t140, t143)) = some (r1, r2) := H
 have A3 := Aside0.mk A30
 clear A30
 simp only [Option.some.injEq, Prod.mk.injEq] at H
 obtain ⟨rfl, rfl⟩ := H
 go_enter Try.func24, Try.ntmps24
 go_wp2_with (first | ((with_reducible refine gate_dst (N := 1) rfl ?_); refine box_event ?hg (N := 1) ?hd (cs := #[.slice A0_0 l0_0.length c0_0, .slice A0_1 l0_1.length c0_1]) (t := 24) ?hr ?_; (case hd => rfl); (case hg => rfl); (case hr => first | (go_simp; done) | (go_simp; rfl)); intro gb137 hg w4 hbox hb; have n0_ := Aside0.mk (below_step (qb HB.out) hb); have n1_ := Aside0.mk (hbox); have n2_ := Aside0.mk ((by rw [hg]; exact (below_size (qb HB.out)) : w.heap.size ≤ gb137)); have n3_ := Aside0.mk ((by rw [hg]; exact (below_size (qb HB.out)) : w.heap.size ≤ gb137)); clear HB; have HB := n0_; have BK137 := n1_; have GW137 := n2_; have GE137 := n3_; clear n0_ n1_ n2_ n3_; clear hb hbox hg) | ((with_reducible refine gate_dst (N := 2) rfl ?_); refine box_event ?hg (N := 2) ?hd (cs := #[.slice none 0 0, .slice none 0 0]) (t := 34) ?hr ?_; (case hd => rfl); (case hg => rfl); (case hr => first | (go_simp; done) | (go_simp; rfl)); intro gb138 hg w5 hbox hb; have n0_ := Aside0.mk (blk_below (g := gb137) (o := .cells #[.slice A0_0 l0_0.length c0_0, .slice A0_1 l0_1.length c0_1] 24 (0, 0)) (qk BK137.out) hb); have n1_ := Aside0.mk (below_step (qb1 HB.out GE137.out) hb); have n2_ := Aside0.mk (hbox); have n3_ := Aside0.mk ((by rw [hg]; exact (below_size (qb1 HB.out GE137.out)) : w.heap.size ≤ gb138)); have n4_ := Aside0.mk ((by rw [hg]; exact (below_size (qb1 HB.out GE137.out)) : w.heap.size ≤ gb138)); have n5_ := Aside0.mk ((by rw [hg]; exact Nat.ne_of_lt (blk_lt (g := gb137) (o := .cells #[.slice A0_0 l0_0.length c0_0, .slice A0_1 l0_1.length c0_1] 24 (0, 0)) (qk BK137.out)) : gb137 ≠ gb138)); have n6_ := Aside0.mk ((by rw [hg]; exact Nat.ne_of_gt (blk_lt (g := gb137) (o := .cells #[.slice A0_0 l0_0.length c0_0, .slice A0_1 l0_1.length c0_1] 24 (0, 0)) (qk BK137.out)) : gb138 ≠ gb137)); clear BK137; clear HB; have BK137 := n0_; have HB := n1_; have BK138 := n2_; have GW138 := n3_; have GE138 := n4_; have NB137_138 := n5_; have NB138_137 := n6_; clear n0_ n1_ n2_ n3_ n4_ n5_ n6_; clear hb hbox hg) | ((with_reducible refine gate_dst (N := 3) rfl ?_); refine box_event ?hg (N := 3) ?hd (cs := #[.slice none 0 0, .slice none 0 0]) (t := 34) ?hr ?_; (case hd => rfl); (case hg => rfl); (case hr => first | (go_simp; done) | (go_simp; rfl)); intro gb139 hg w6 hbox hb; have n0_ := Aside0.mk (blk_below (g := gb137) (o := .cells #[.slice A0_0 l0_0.length c0_0, .slice A0_1 l0_1.length c0_1] 24 (0, 0)) (qk BK137.out) hb); have n1_ := Aside0.mk (blk_below (g := gb138) (o := .cells #[.slice none 0 0, .slice none 0 0] 34 (0, 0)) (qk BK138.out) hb); have n2_ := Aside0.mk (below_step (qb2 HB.out GE137.out GE138.out) hb); have n3_ := Aside0.mk (hbox); have n4_ := Aside0.mk ((by rw [hg]; exact (below_size (qb2 HB.out GE137.out GE138.out)) : w.heap.size ≤ gb139)); have n5_ := Aside0.mk ((by rw [hg]; exact (below_size (qb2 HB.out GE137.out GE138.out)) : w.heap.size ≤ gb139)); have n6_ := Aside0.mk ((by rw [hg]; exact Nat.ne_of_lt (blk_lt (g := gb137) (o := .cells #[.slice A0_0 l0_0.length c0_0, .slice A0_1 l0_1.length c0_1] 24 (0, 0)) (qk BK137.out)) : gb137 ≠ gb139)); have n7_ := Aside0.mk ((by rw [hg]; exact Nat.ne_of_gt (blk_lt (g := gb137) (o := .cells #[.slice A0_0 l0_0.length c0_0, .slice A0_1 l0_1.length c0_1] 24 (0, 0)) (qk BK137.out)) : gb139 ≠ gb137)); have n8_ := Aside0.mk ((by rw [hg]; exact Nat.ne_of_lt (blk_lt (g := gb138) (o := .cells #[.slice none 0 0, .slice none 0 0] 34 (0, 0)) (qk BK138.out)) : gb138 ≠ gb139)); have n9_ := Aside0.mk ((by rw [hg]; exact Nat.ne_of_gt (blk_lt (g := gb138) (o := .cells #[.slice none 0 0, .slice none 0 0] 34 (0, 0)) (qk BK138.out)) : gb139 ≠ gb138)); clear BK137; clear BK138; clear HB; have BK137 := n0_; have BK138 := n1_; have HB := n2_; have BK139 := n3_; have GW139 := n4_; have GE139 := n5_; have NB137_139 := n6_; have NB139_137 := n7_; have NB138_139 := n8_; have NB139_138 := n9_; clear n0_ n1_ n2_ n3_ n4_ n5_ n6_ n7_ n8_ n9_; clear hb hbox hg; have hnb7 := NB137_138.out; have hnc7 := NB138_137.out; have hnb8 := NB137_139.out; have hnc8 := NB139_137.out; have hcz9_0 : w6.cell? ⟨gb137, 0, none⟩ = some (.slice A0_0 l0_0.length c0_0) := (blk_cell BK137.out 0).trans rfl; have hcz9_1 : w6.cell? ⟨gb137, 1, none⟩ = some (.slice A0_1 l0_1.length c0_1) := (blk_cell BK137.out 1).trans rfl; have hfz9_0 := blk_frozen BK137.out 0; have hfz9_1 := blk_frozen BK137.out 1) | ((with_reducible refine gate_callee (f := 14) rfl ?_); refine goesL_ (some 6) rfl rfl Try.func14 (by kernel_rfl) rfl #[.slice A0_0 l0_0.length c0_0] rfl qm ?_; (with_reducible refine (laws_toBoolS.calls k _ _ l0_0 t140 _ ?side1 ?side2 A2.out).mono ?_); (case side1 => repeat (first | exact (Kd.C_below HR0_0.out HB.out) | (with_reducible refine Kd.C_alloc ?_ _) | (with_reducible refine Kd.C_drewN ?_ _) | (with_reducible refine Kd.C_drew ?_))); (case side2 => exact HC0_0.out); rintro e w10 ⟨v141, rfl, ho0, hb⟩; refine ⟨_, rfl, ?_⟩; have n0_ := Aside0.mk (Kd.R_lower ho0 (below_size (qb3 HB.out GE137.out GE138.out GE139.out))); have n1_ := Aside0.mk (blk_below (g := gb137) (o := .cells #[.slice A0_0 l0_0.length c0_0, .slice A0_1 l0_1.length c0_1] 24 (0, 0)) (qk BK137.out) hb); have n2_ := Aside0.mk (blk_below (g := gb138) (o := .cells #[.slice none 0 0, .slice none 0 0] 34 (0, 0)) (qk BK138.out) hb); have n3_ := Aside0.mk (blk_below (g := gb139) (o := .cells #[.slice none 0 0, .slice none 0 0] 34 (0, 0)) (qk BK139.out) hb); have n4_ := Aside0.mk (below_step (qb3 HB.out GE137.out GE138.out GE139.out) hb); clear BK137; clear BK138; clear BK139; clear HB; have HO142 := n0_; have BK137 := n1_; have BK138 := n2_; have BK139 := n3_; have HB := n4_; clear n0_ n1_ n2_ n3_ n4_; (try clear hb); (try clear hb2); (try clear hk); (try clear hi); (try clear ho0); obtain ⟨Ao11, co11, eo11⟩ := Kd.R_slice HO142.out; subst eo11; have hnb12 := NB139_138.out; have hnc12 := NB138_139.out; have hcz13_0 : w10.cell? ⟨gb139, 0, none⟩ = some (.slice none 0 0) := (blk_cell BK139.out 0).trans rfl; have hcz13_1 : w10.cell? ⟨gb139, 1, none⟩ = some (.slice none 0 0) := (blk_cell BK139.out 1).trans rfl; have hfz13_0 := blk_frozen BK139.out 0; have hfz13_1 := blk_frozen BK139.out 1; have hcz14_0 : w10.cell? ⟨gb137, 0, none⟩ = some (.slice A0_0 l0_0.length c0_0) := (blk_cell BK137.out 0).trans rfl; have hcz14_1 : w10.cell? ⟨gb137, 1, none⟩ = some (.slice A0_1 l0_1.length c0_1) := (blk_cell BK137.out 1).trans rfl; have hfz14_0 := blk_frozen BK137.out 0; have hfz14_1 := blk_frozen BK137.out 1) | ((with_reducible refine gate_callee (f := 14) rfl ?_); refine goesL_ (some 10) rfl rfl Try.func14 (by kernel_rfl) rfl #[.slice A0_1 l0_1.length c0_1] rfl qm ?_; (with_reducible refine (laws_toBoolS.calls k _ _ l0_1 t143 _ ?side1 ?side2 A3.out).mono ?_); (case side1 => exact Kd.C_below HR0_1.out (qb3 HB.out GE137.out GE138.out GE139.out)); (case side2 => exact HC0_1.out); rintro e w15 ⟨v144, rfl, ho0, hb⟩; refine ⟨_, rfl, ?_⟩; have n0_ := Aside0.mk (Kd.R_elder' (by refine qR ?_; exact (Kd.R_mono (Kd.R_far (p := ⟨gb139, 0, none⟩) (Kd.R_types HO142.out BK139.out (by decide)) (fun _ hk => hk.2) (.slice Ao11 t140.length co11)) (fun _ h_ => h_.1))) (Kd.R_base ho0) hb); have n1_ := Aside0.mk (Kd.R_lower (Kd.R_new' ho0 (Kd.R_lt (by refine qR ?_; exact (Kd.R_mono (Kd.R_far (p := ⟨gb139, 0, none⟩) (Kd.R_types HO142.out BK139.out (by decide)) (fun _ hk => hk.2) (.slice Ao11 t140.length co11)) (fun _ h_ => h_.1))))) (below_size (qb3 HB.out GE137.out GE138.out GE139.out))); have n2_ := Aside0.mk (blk_below (g := gb137) (o := .cells #[.slice A0_0 l0_0.length c0_0, .slice A0_1 l0_1.length c0_1] 24 (0, 0)) (by refine qK ?_; refine blk_far ?_ NB137_139.out _; refine qK ?_; exact BK137.out) hb); have n3_ := Aside0.mk (blk_below (g := gb138) (o := .cells #[.slice none 0 0, .slice none 0 0] 34 (0, 0)) (by refine qK ?_; refine blk_far ?_ NB138_139.out _; refine qK ?_; exact BK138.out) hb); have n4_ := Aside0.mk (blk_below (g := gb139) (o := .cells #[.slice Ao11 t140.length co11, .slice none 0 0] 34 (0, 0)) (by refine qK ?_; refine blk_put (cs := #[.slice none 0 0, .slice none 0 0]) ?_ 0 _ rfl; refine qK ?_; exact BK139.out) hb); have n5_ := Aside0.mk (below_step (qb3 HB.out GE137.out GE138.out GE139.out) hb); clear HO142; clear BK137; clear BK138; clear BK139; clear HB; have HO142 := n0_; have HO145 := n1_; have BK137 := n2_; have BK138 := n3_; have BK139 := n4_; have HB := n5_; clear n0_ n1_ n2_ n3_ n4_ n5_; (try clear hb); (try clear hb2); (try clear hk); (try clear hi); (try clear ho0); obtain ⟨Ao16, co16, eo16⟩ := Kd.R_slice HO145.out; subst eo16; have hcz17_0 : w15.cell? ⟨gb139, 0, none⟩ = some (.slice Ao11 t140.length co11) := (blk_cell BK139.out 0).trans rfl; have hcz17_1 : w15.cell? ⟨gb139, 1, none⟩ = some (.slice none 0 0) := (blk_cell BK139.out 1).trans rfl; have hfz17_0 := blk_frozen BK139.out 0; have hfz17_1 := blk_frozen BK139.out 1; have hcz18_0 : w15.cell? ⟨gb138, 0, none⟩ = some (.slice none 0 0) := (blk_cell BK138.out 0).trans rfl; have hcz18_1 : w15.cell? ⟨gb138, 1, none⟩ = some (.slice none 0 0) := (blk_cell BK138.out 1).trans rfl; have hfz18_0 := blk_frozen BK138.out 0; have hfz18_1 := blk_frozen BK138.out 1))
 refine bodyPost_ret (results_cell_row rfl _ _ gb138 34 #[.slice Ao11 t140.length co11, .slice Ao16 t143.length co16] (0, 0) _ rfl (by refine qK ?_; refine blk_put (cs := #[.slice Ao11 t140.length co11, .slice none 0 0]) ?_ 1 _ rfl; refine qK ?_; refine blk_put (cs := #[.slice none 0 0, .slice none 0 0]) ?_ 0 _ rfl; refine qK ?_; refine blk_far ?_ NB138_139.out _; refine qK ?_; exact BK138.out) Try.underlying34 rfl (by kernel_rfl)) rfl ?_
 exact ⟨_, _, qe, by refine qR ?_; exact Kd.R_mono (Kd.R_far (p := ⟨gb138, 1, none⟩) (Kd.R_far (p := ⟨gb138, 0, none⟩) (Kd.R_far (p := ⟨gb139, 1, none⟩) (Kd.R_types (Kd.R_types HO142.out BK139.out (by decide)) BK138.out (by decide)) (fun _ hk => hk.1.2) (.slice Ao16 t143.length co16)) (fun _ hk => hk.2) (.slice Ao11 t140.length co11)) (fun _ hk => hk.2) (.slice Ao16 t143.length co16)) (fun _ hk => hk.1.1.2), by refine qR ?_; exact Kd.R_mono (Kd.R_far (p := ⟨gb138, 1, none⟩) (Kd.R_far (p := ⟨gb138, 0, none⟩) (Kd.R_far (p := ⟨gb139, 1, none⟩) (Kd.R_types (Kd.R_types HO145.out BK139.out (by decide)) BK138.out (by decide)) (fun _ hk => hk.1.2) (.slice Ao16 t143.length co16)) (fun _ hk => hk.2) (.slice Ao11 t140.length co11)) (fun _ hk => hk.2) (.slice Ao16 t143.length co16)) (fun _ hk => hk.1.1.2), qb3 HB.out GE137.out GE138.out GE139.out⟩

end Go.Proofs.Ytmkcpkhhlbmgcaa.PFnExactDepAt
