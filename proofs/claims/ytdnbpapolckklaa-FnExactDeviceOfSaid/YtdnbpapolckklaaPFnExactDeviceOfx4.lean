-- Written by a program of this session (a changed copy of the kit's print: wip/print2). Lean checks it.
import Derived.Test.YtdnbpapolckklaaPFnExactDeviceOfx0
import Derived.Test.YtdnbpapolckklaaPFnExactDeviceOfx2
import Derived.Test.YtdnbpapolckklaaPFnExactDeviceOfx3
namespace Go.Proofs.Ytdnbpapolckklaa.PFnExactDeviceOf
open Go.RowKit Go.Proofs.YtdnbpapolckklaaW.PrintWords Go.Proofs.YtdnbpapolckklaaW.PrintLast Go.Proofs.YtdnbpapolckklaaW.PrintMore
attribute [local go_sem] max2_int min2_int max_two min_two max_three min_three max_four min_four   -- for this text's walks alone
attribute [local go_sem] Go.Proofs.Ytdnbpapolckklaa.Pad.isSome_setCell
set_option linter.unusedVariables false
set_option linter.unusedSimpArgs false

/-! ### spec_BlockOk: function 33 -/
mutual
def spec_BlockOk.j0 : Nat → Bool → Bool → List (S69) → ByteArray → Option (Bool)
 | 0, _, _, _, _ => none
 | k + 1, x27, x121000, x121001, x121002 => if x27 = true then (some false) else (spec_BlockOk.l0 k 0 x121000 x121001 x121002)
def spec_BlockOk.l0 : Nat → Int → Bool → List (S69) → ByteArray → Option (Bool)
 | 0, _, _, _, _ => none
 | k + 1, x3, x121000, x121001, x121002 => if x3 < 4 then (if 0 ≤ x3 then (if x3 < (x121001.length : Int) then (if ((rd_T69 x121001 x3).f0).toList = ([] : List UInt8) then (spec_BlockOk.j2 k x3 (((rd_T69 x121001 x3).f1) == 0) x121000 x121001 x121002 ((rd_T69 x121001 x3).f0) ((rd_T69 x121001 x3).f1)) else (spec_BlockOk.j2 k x3 false x121000 x121001 x121002 ((rd_T69 x121001 x3).f0) ((rd_T69 x121001 x3).f1))) else (none)) else (none)) else (some true)
def spec_BlockOk.j2 : Nat → Int → Bool → Bool → List (S69) → ByteArray → ByteArray → Int → Option (Bool)
 | 0, _, _, _, _, _, _, _ => none
 | k + 1, x3, x44, x121000, x121001, x121002, x123000, x123001 => if x44 = true then (spec_BlockOk.l0 k (wrap64 (x3 + 1)) x121000 x121001 x121002) else ((spec_NameOk.f k x123000).bind fun t123 => (if t123 = true then ((spec_l01In.f x123001 1 8).bind fun t124 => (spec_BlockOk.j3 k x3 (!t124) x121000 x121001 x121002 x123000 x123001)) else (spec_BlockOk.j3 k x3 true x121000 x121001 x121002 x123000 x123001)))
def spec_BlockOk.j3 : Nat → Int → Bool → Bool → List (S69) → ByteArray → ByteArray → Int → Option (Bool)
 | 0, _, _, _, _, _, _, _ => none
 | k + 1, x3, x54, x121000, x121001, x121002, x123000, x123001 => if x54 = true then (some false) else (spec_BlockOk.l1 k x3 0 x121000 x121001 x121002 x123000 x123001)
def spec_BlockOk.l1 : Nat → Int → Int → Bool → List (S69) → ByteArray → ByteArray → Int → Option (Bool)
 | 0, _, _, _, _, _, _, _ => none
 | k + 1, x3, x5, x121000, x121001, x121002, x123000, x123001 => if x5 < x3 then (if 0 ≤ x5 then (if x5 < (x121001.length : Int) then (if ((rd_T69 x121001 x5).f0).toList = x123000.toList then (some false) else (spec_BlockOk.l1 k x3 (wrap64 (x5 + 1)) x121000 x121001 x121002 x123000 x123001)) else (none)) else (none)) else (spec_BlockOk.l0 k (wrap64 (x3 + 1)) x121000 x121001 x121002)
end
def spec_BlockOk.f (k : Nat) (a0_0 : Bool) (l0_1 : List (S69)) (a0_2 : ByteArray) : Option (Bool) := if a0_0 = true then (if (l0_1.length : Int) = 4 then (spec_BlockOk.j0 k (a0_2.toList != ([] : List UInt8)) a0_0 l0_1 a0_2) else (spec_BlockOk.j0 k true a0_0 l0_1 a0_2)) else (if (l0_1.length : Int) = 0 then (some (decide ((a0_2.size : Int) ≤ 16))) else (some false))
set_option maxHeartbeats 8000000 in
set_option maxRecDepth 100000 in
theorem spec_BlockOk.calls (k : Nat) (a0_0 : Bool) (A0_1 : Option Addr) (c0_1 : Nat) (l0_1 : List (S69)) (a0_2 : ByteArray) (r : Bool) (w : World) (hr0_1 : Kd.C k69 w A0_1 l0_1.length l0_1) (hc0_1 : l0_1.length ≤ c0_1) (h : spec_BlockOk.f k a0_0 l0_1 a0_2 = some r) :
  Calls Try.prog 33 #[.agg #[.bool a0_0, .slice A0_1 l0_1.length c0_1, .string a0_2]] w fun e w' => e = .returned (.bool r) ∧ Below w.heap.size w w' := by
 have hu59 := Try.underlying59
 have hu69 := Try.underlying69
 have HR0_1 := Aside0.mk hr0_1
 have HC0_1 := Aside0.mk hc0_1
 clear hr0_1 hc0_1
 have HB := Aside0.mk (Below.refl w.heap.size w)
 have H : (if a0_0 = true then (if (l0_1.length : Int) = 4 then (spec_BlockOk.j0 k (a0_2.toList != ([] : List UInt8)) a0_0 l0_1 a0_2) else (spec_BlockOk.j0 k true a0_0 l0_1 a0_2)) else (if (l0_1.length : Int) = 0 then (some (decide ((a0_2.size : Int) ≤ 16))) else (some false))) = some r := h
 clear h
 by_cases c2 : a0_0 = true
 ·subst c2
  have H1 : (if (l0_1.length : Int) = 4 then (spec_BlockOk.j0 k (a0_2.toList != ([] : List UInt8)) true l0_1 a0_2) else (spec_BlockOk.j0 k true true l0_1 a0_2)) = some r := by rw [if_pos rfl] at H; exact H
  clear H
  have H := H1
  clear H1
  have HC3 := Aside0.mk H
  clear H
  go_enter Try.func33, Try.ntmps33
  go_upto_region 3 with (first | ((with_reducible refine gate_dst (N := 1) rfl ?_); (try (refine gate_guard (by rfl) ?_; dsimp only)); refine box_event ?hg (N := 1) ?hd (cs := #[.bool true, .slice A0_1 l0_1.length c0_1, .string a0_2]) (t := 59) ?hr ?_; (case hd => rfl); (case hg => rfl); (case hr => first | (go_simp; done) | (go_simp; rfl)); intro gb120 hg w4 hbox hb; have n0_ := Aside0.mk (below_step (qb HB.out) hb); have n1_ := Aside0.mk (hbox); have n2_ := Aside0.mk ((by rw [hg]; exact (below_size (qb HB.out)) : w.heap.size ≤ gb120)); have n3_ := Aside0.mk ((by rw [hg]; exact (below_size (qb HB.out)) : w.heap.size ≤ gb120)); clear HB; have HB := n0_; have BK120 := n1_; have GW120 := n2_; have GE120 := n3_; clear n0_ n1_ n2_ n3_; clear hb hbox hg; have hcz5_0 : w4.cell? ⟨gb120, 0, none⟩ = some (.bool true) := (blk_cell BK120.out 0).trans rfl; have hcz5_1 : w4.cell? ⟨gb120, 1, none⟩ = some (.slice A0_1 l0_1.length c0_1) := (blk_cell BK120.out 1).trans rfl; have hcz5_2 : w4.cell? ⟨gb120, 2, none⟩ = some (.string a0_2) := (blk_cell BK120.out 2).trans rfl; have hfz5_0 := blk_frozen BK120.out 0; have hfz5_1 := blk_frozen BK120.out 1; have hfz5_2 := blk_frozen BK120.out 2))
  repeat (go_quiet (first | ((with_reducible refine gate_dst (N := 1) rfl ?_); (try (refine gate_guard (by rfl) ?_; dsimp only)); refine box_event ?hg (N := 1) ?hd (cs := #[.bool true, .slice A0_1 l0_1.length c0_1, .string a0_2]) (t := 59) ?hr ?_; (case hd => rfl); (case hg => rfl); (case hr => first | (go_simp; done) | (go_simp; rfl)); intro gb120 hg w4 hbox hb; have n0_ := Aside0.mk (below_step (qb HB.out) hb); have n1_ := Aside0.mk (hbox); have n2_ := Aside0.mk ((by rw [hg]; exact (below_size (qb HB.out)) : w.heap.size ≤ gb120)); have n3_ := Aside0.mk ((by rw [hg]; exact (below_size (qb HB.out)) : w.heap.size ≤ gb120)); clear HB; have HB := n0_; have BK120 := n1_; have GW120 := n2_; have GE120 := n3_; clear n0_ n1_ n2_ n3_; clear hb hbox hg; have hcz5_0 : w4.cell? ⟨gb120, 0, none⟩ = some (.bool true) := (blk_cell BK120.out 0).trans rfl; have hcz5_1 : w4.cell? ⟨gb120, 1, none⟩ = some (.slice A0_1 l0_1.length c0_1) := (blk_cell BK120.out 1).trans rfl; have hcz5_2 : w4.cell? ⟨gb120, 2, none⟩ = some (.string a0_2) := (blk_cell BK120.out 2).trans rfl; have hfz5_0 := blk_frozen BK120.out 0; have hfz5_1 := blk_frozen BK120.out 1; have hfz5_2 := blk_frozen BK120.out 2)); go_upto_region 3 with (first | ((with_reducible refine gate_dst (N := 1) rfl ?_); (try (refine gate_guard (by rfl) ?_; dsimp only)); refine box_event ?hg (N := 1) ?hd (cs := #[.bool true, .slice A0_1 l0_1.length c0_1, .string a0_2]) (t := 59) ?hr ?_; (case hd => rfl); (case hg => rfl); (case hr => first | (go_simp; done) | (go_simp; rfl)); intro gb120 hg w4 hbox hb; have n0_ := Aside0.mk (below_step (qb HB.out) hb); have n1_ := Aside0.mk (hbox); have n2_ := Aside0.mk ((by rw [hg]; exact (below_size (qb HB.out)) : w.heap.size ≤ gb120)); have n3_ := Aside0.mk ((by rw [hg]; exact (below_size (qb HB.out)) : w.heap.size ≤ gb120)); clear HB; have HB := n0_; have BK120 := n1_; have GW120 := n2_; have GE120 := n3_; clear n0_ n1_ n2_ n3_; clear hb hbox hg; have hcz5_0 : w4.cell? ⟨gb120, 0, none⟩ = some (.bool true) := (blk_cell BK120.out 0).trans rfl; have hcz5_1 : w4.cell? ⟨gb120, 1, none⟩ = some (.slice A0_1 l0_1.length c0_1) := (blk_cell BK120.out 1).trans rfl; have hcz5_2 : w4.cell? ⟨gb120, 2, none⟩ = some (.string a0_2) := (blk_cell BK120.out 2).trans rfl; have hfz5_0 := blk_frozen BK120.out 0; have hfz5_1 := blk_frozen BK120.out 1; have hfz5_2 := blk_frozen BK120.out 2)))
  (try simp only [Act.put, List.setIfInBounds_toArray, List.set_cons_zero, List.set_cons_succ])
  go_cut [27] (fun v27 wc => ∃ (kq : Nat) (x27_2 : Bool), v27 = .bool x27_2 ∧ Aside0 (spec_BlockOk.j0 kq x27_2 true l0_1 a0_2 = some r) ∧ Aside0 (kq ≤ k) ∧ Aside0 (wc.heap[gb120]? = some (.cells #[.bool true, (.slice A0_1 l0_1.length c0_1), .string a0_2] 59 (0, 0))) ∧ Aside0 (Below w.heap.size w wc))
  case first =>
   have H := HC3.out
   clear HC3
   by_cases c6 : (l0_1.length : Int) = 4
   ·rw [if_pos c6] at H
    have c6b0 : ((l0_1.length : Int) == 4) = true := beq_iff_eq.mpr c6
    have c6b1 : ((l0_1.length : Int) != 4) = false := bne_eq_false_iff_eq.mpr c6
    clear c6
    (first | rw [c6b0] | (simp only [i64_w, i32_w]; rw [c6b0]) | skip)
    have H' := Aside0.mk H
    clear H
    have hcz7_0 : w4.cell? ⟨gb120, 0, none⟩ = some (.bool true) := (blk_cell BK120.out 0).trans rfl
    have hcz7_1 : w4.cell? ⟨gb120, 1, none⟩ = some (.slice A0_1 l0_1.length c0_1) := (blk_cell BK120.out 1).trans rfl
    have hcz7_2 : w4.cell? ⟨gb120, 2, none⟩ = some (.string a0_2) := (blk_cell BK120.out 2).trans rfl
    have hfz7_0 := blk_frozen BK120.out 0
    have hfz7_1 := blk_frozen BK120.out 1
    have hfz7_2 := blk_frozen BK120.out 2
    go_wp2
    repeat (go_quiet (fail); try go_wp2)
    go_meet
    case rel => exact ⟨_, ((a0_2.toList != ([] : List UInt8))), qz, H', ⟨by first | omega | exact Nat.le_refl _⟩, ⟨qk BK120.out⟩, ⟨qb1 HB.out GE120.out⟩⟩
   ·rw [if_neg c6] at H
    have c6b0 : ((l0_1.length : Int) == 4) = false := beq_eq_false_iff_ne.mpr c6
    have c6b1 : ((l0_1.length : Int) != 4) = true := bne_iff_ne.mpr c6
    (first | rw [c6b0] | (simp only [i64_w, i32_w]; rw [c6b0]) | skip)
    have H' := Aside0.mk H
    clear H
    have hcz8_0 : w4.cell? ⟨gb120, 0, none⟩ = some (.bool true) := (blk_cell BK120.out 0).trans rfl
    have hcz8_1 : w4.cell? ⟨gb120, 1, none⟩ = some (.slice A0_1 l0_1.length c0_1) := (blk_cell BK120.out 1).trans rfl
    have hcz8_2 : w4.cell? ⟨gb120, 2, none⟩ = some (.string a0_2) := (blk_cell BK120.out 2).trans rfl
    have hfz8_0 := blk_frozen BK120.out 0
    have hfz8_1 := blk_frozen BK120.out 1
    have hfz8_2 := blk_frozen BK120.out 2
    go_wp2
    repeat (go_quiet (fail); try go_wp2)
    go_meet
    case rel => exact ⟨_, (true), qz, H', ⟨by first | omega | exact Nat.le_refl _⟩, ⟨qk BK120.out⟩, ⟨qb1 HB.out GE120.out⟩⟩
  case rest =>
   clear HC3
   try clear c2
   try clear p2
   try clear c3
   try clear c6
   try clear c6b0
   try clear c6b1
   try clear hcz5_0
   try clear hcz5_1
   try clear hcz5_2
   try clear hcz7_0
   try clear hcz7_1
   try clear hcz7_2
   try clear hcz8_0
   try clear hcz8_1
   try clear hcz8_2
   try clear hfz5_0
   try clear hfz5_1
   try clear hfz5_2
   try clear hfz7_0
   try clear hfz7_1
   try clear hfz7_2
   try clear hfz8_0
   try clear hfz8_1
   try clear hfz8_2
   obtain ⟨kq, x27_2, rfl, HA, HJ2, BK120, HB⟩ := hcut
   cases kq with
   | zero => exact absurd HA.out (by simp [spec_BlockOk.j0])
   | succ kj2 =>
    have H := HA.out
    clear HA
    simp only [spec_BlockOk.j0] at H
    by_cases c9 : x27_2 = true
    ·subst c9
     have H1 : (some false) = some r := by rw [if_pos rfl] at H; exact H
     clear H
     have H := H1
     clear H1
     obtain rfl := Option.some.inj H
     go_wp2
     repeat (go_quiet (fail); try go_wp2)
     go_ret
     exact ⟨qe, qb1 HB.out GE120.out⟩
    ·replace c9 := Bool.eq_false_iff.mpr c9
     subst c9
     have H1 : (spec_BlockOk.l0 kj2 0 true l0_1 a0_2) = some r := by rw [if_neg (show ¬ (false = true) by decide)] at H; exact H
     clear H
     have H := H1
     clear H1
     have H' := Aside0.mk H
     clear H
     go_wp2
     repeat (go_quiet (fail); try go_wp2)
     go_loopg [3] kj2 (fun kq v3 w' => ∃ (x3_2 : Int), v3 = .int .i64 x3_2 ∧ Aside0 (spec_BlockOk.l0 kq x3_2 true l0_1 a0_2 = some r) ∧ Aside0 (kq ≤ kj2) ∧ Aside0 (w'.heap[gb120]? = some (.cells #[.bool true, (.slice A0_1 l0_1.length c0_1), .string a0_2] 59 (0, 0))) ∧ Aside0 (Below w.heap.size w w'))
     case atStart => exact ⟨(0), qz, H', ⟨Nat.le_refl _⟩, ⟨qk BK120.out⟩, ⟨qb1 HB.out GE120.out⟩⟩
     case round =>
      clear H'
      try clear c2
      try clear p2
      try clear c3
      try clear c6
      try clear c6b0
      try clear c6b1
      try clear c9
      try clear hcz5_0
      try clear hcz5_1
      try clear hcz5_2
      try clear hcz7_0
      try clear hcz7_1
      try clear hcz7_2
      try clear hcz8_0
      try clear hcz8_1
      try clear hcz8_2
      try clear hfz5_0
      try clear hfz5_1
      try clear hfz5_2
      try clear hfz7_0
      try clear hfz7_1
      try clear hfz7_2
      try clear hfz8_0
      try clear hfz8_1
      try clear hfz8_2
      try clear p2
      obtain ⟨x3_2, rfl, HA, HK2, BK120, HB⟩ := hrel
      cases gk with
      | zero => exact absurd HA.out (by simp [spec_BlockOk.l0])
      | succ k2 =>
       have H := HA.out
       clear HA
       simp only [spec_BlockOk.l0] at H
       by_cases c10 : x3_2 < 4
       ·rw [if_pos c10] at H
        have c10b0 : decide (x3_2 < 4) = true := decide_eq_true c10
        clear c10
        by_cases c11 : 0 ≤ x3_2
        ·rw [if_pos c11] at H
         have c11b0 : decide (0 ≤ x3_2) = true := decide_eq_true c11
         clear c11
         by_cases c12 : x3_2 < (l0_1.length : Int)
         ·rw [if_pos c12] at H
          have c12b0 : decide (x3_2 < (l0_1.length : Int)) = true := decide_eq_true c12
          clear c12
          have HC13 := Aside0.mk H
          clear H
          have hcz14_0 : wr.cell? ⟨gb120, 0, none⟩ = some (.bool true) := (blk_cell BK120.out 0).trans rfl
          have hcz14_1 : wr.cell? ⟨gb120, 1, none⟩ = some (.slice A0_1 l0_1.length c0_1) := (blk_cell BK120.out 1).trans rfl
          have hcz14_2 : wr.cell? ⟨gb120, 2, none⟩ = some (.string a0_2) := (blk_cell BK120.out 2).trans rfl
          have hfz14_0 := blk_frozen BK120.out 0
          have hfz14_1 := blk_frozen BK120.out 1
          have hfz14_2 := blk_frozen BK120.out 2
          have p121 : 0 ≤ (x3_2 : Int) := qo
          have q121 : x3_2 < (l0_1.length : Int) := qo
          obtain ⟨ad121, e121, hx121_0, hx121_1⟩ := at_T69 HR0_1.out x3_2 p121 q121
          cases e121
          replace hx121_0 := qc HB.out hx121_0
          replace hx121_1 := qc HB.out hx121_1
          replace p121 := eq_true p121
          replace q121 := eq_true q121
          go_upto_region 9 with (first | ((with_reducible refine gate_dst (N := 4) rfl ?_); (try (refine gate_guard (by rfl) ?_; dsimp only)); refine box_event ?hg (N := 4) ?hd (cs := #[.string (⟨#[]⟩ : ByteArray), .int .i64 0]) (t := 69) ?hr ?_; (case hd => rfl); (case hg => rfl); (case hr => first | (go_simp; done) | (go_simp; rfl)); intro gb122 hg w15 hbox hb; have n0_ := Aside0.mk (blk_below (g := gb120) (o := .cells #[.bool true, .slice (some ad121) l0_1.length c0_1, .string a0_2] 59 (0, 0)) (qk BK120.out) hb); have n1_ := Aside0.mk (below_step (qb1 HB.out GE120.out) hb); have n2_ := Aside0.mk (hbox); have n3_ := Aside0.mk ((by rw [hg]; exact (below_size (qb1 HB.out GE120.out)) : w.heap.size ≤ gb122)); have n4_ := Aside0.mk ((by rw [hg]; exact (below_size (qb1 HB.out GE120.out)) : w.heap.size ≤ gb122)); have n5_ := Aside0.mk ((by rw [hg]; exact Nat.ne_of_lt (blk_lt (g := gb120) (o := .cells #[.bool true, .slice (some ad121) l0_1.length c0_1, .string a0_2] 59 (0, 0)) (qk BK120.out)) : gb120 ≠ gb122)); have n6_ := Aside0.mk ((by rw [hg]; exact Nat.ne_of_gt (blk_lt (g := gb120) (o := .cells #[.bool true, .slice (some ad121) l0_1.length c0_1, .string a0_2] 59 (0, 0)) (qk BK120.out)) : gb122 ≠ gb120)); clear BK120; clear HB; have BK120 := n0_; have HB := n1_; have BK122 := n2_; have GW122 := n3_; have GE122 := n4_; have NB120_122 := n5_; have NB122_120 := n6_; clear n0_ n1_ n2_ n3_ n4_ n5_ n6_; clear hb hbox hg; have hnb16 := NB122_120.out; have hnc16 := NB120_122.out; have hcz17_0 : w15.cell? ⟨gb122, 0, none⟩ = some (.string (⟨#[]⟩ : ByteArray)) := (blk_cell BK122.out 0).trans rfl; have hcz17_1 : w15.cell? ⟨gb122, 1, none⟩ = some (.int .i64 0) := (blk_cell BK122.out 1).trans rfl; have hfz17_0 := blk_frozen BK122.out 0; have hfz17_1 := blk_frozen BK122.out 1))
          repeat (go_quiet (first | ((with_reducible refine gate_dst (N := 4) rfl ?_); (try (refine gate_guard (by rfl) ?_; dsimp only)); refine box_event ?hg (N := 4) ?hd (cs := #[.string (⟨#[]⟩ : ByteArray), .int .i64 0]) (t := 69) ?hr ?_; (case hd => rfl); (case hg => rfl); (case hr => first | (go_simp; done) | (go_simp; rfl)); intro gb122 hg w15 hbox hb; have n0_ := Aside0.mk (blk_below (g := gb120) (o := .cells #[.bool true, .slice (some ad121) l0_1.length c0_1, .string a0_2] 59 (0, 0)) (qk BK120.out) hb); have n1_ := Aside0.mk (below_step (qb1 HB.out GE120.out) hb); have n2_ := Aside0.mk (hbox); have n3_ := Aside0.mk ((by rw [hg]; exact (below_size (qb1 HB.out GE120.out)) : w.heap.size ≤ gb122)); have n4_ := Aside0.mk ((by rw [hg]; exact (below_size (qb1 HB.out GE120.out)) : w.heap.size ≤ gb122)); have n5_ := Aside0.mk ((by rw [hg]; exact Nat.ne_of_lt (blk_lt (g := gb120) (o := .cells #[.bool true, .slice (some ad121) l0_1.length c0_1, .string a0_2] 59 (0, 0)) (qk BK120.out)) : gb120 ≠ gb122)); have n6_ := Aside0.mk ((by rw [hg]; exact Nat.ne_of_gt (blk_lt (g := gb120) (o := .cells #[.bool true, .slice (some ad121) l0_1.length c0_1, .string a0_2] 59 (0, 0)) (qk BK120.out)) : gb122 ≠ gb120)); clear BK120; clear HB; have BK120 := n0_; have HB := n1_; have BK122 := n2_; have GW122 := n3_; have GE122 := n4_; have NB120_122 := n5_; have NB122_120 := n6_; clear n0_ n1_ n2_ n3_ n4_ n5_ n6_; clear hb hbox hg; have hnb16 := NB122_120.out; have hnc16 := NB120_122.out; have hcz17_0 : w15.cell? ⟨gb122, 0, none⟩ = some (.string (⟨#[]⟩ : ByteArray)) := (blk_cell BK122.out 0).trans rfl; have hcz17_1 : w15.cell? ⟨gb122, 1, none⟩ = some (.int .i64 0) := (blk_cell BK122.out 1).trans rfl; have hfz17_0 := blk_frozen BK122.out 0; have hfz17_1 := blk_frozen BK122.out 1)); go_upto_region 9 with (first | ((with_reducible refine gate_dst (N := 4) rfl ?_); (try (refine gate_guard (by rfl) ?_; dsimp only)); refine box_event ?hg (N := 4) ?hd (cs := #[.string (⟨#[]⟩ : ByteArray), .int .i64 0]) (t := 69) ?hr ?_; (case hd => rfl); (case hg => rfl); (case hr => first | (go_simp; done) | (go_simp; rfl)); intro gb122 hg w15 hbox hb; have n0_ := Aside0.mk (blk_below (g := gb120) (o := .cells #[.bool true, .slice (some ad121) l0_1.length c0_1, .string a0_2] 59 (0, 0)) (qk BK120.out) hb); have n1_ := Aside0.mk (below_step (qb1 HB.out GE120.out) hb); have n2_ := Aside0.mk (hbox); have n3_ := Aside0.mk ((by rw [hg]; exact (below_size (qb1 HB.out GE120.out)) : w.heap.size ≤ gb122)); have n4_ := Aside0.mk ((by rw [hg]; exact (below_size (qb1 HB.out GE120.out)) : w.heap.size ≤ gb122)); have n5_ := Aside0.mk ((by rw [hg]; exact Nat.ne_of_lt (blk_lt (g := gb120) (o := .cells #[.bool true, .slice (some ad121) l0_1.length c0_1, .string a0_2] 59 (0, 0)) (qk BK120.out)) : gb120 ≠ gb122)); have n6_ := Aside0.mk ((by rw [hg]; exact Nat.ne_of_gt (blk_lt (g := gb120) (o := .cells #[.bool true, .slice (some ad121) l0_1.length c0_1, .string a0_2] 59 (0, 0)) (qk BK120.out)) : gb122 ≠ gb120)); clear BK120; clear HB; have BK120 := n0_; have HB := n1_; have BK122 := n2_; have GW122 := n3_; have GE122 := n4_; have NB120_122 := n5_; have NB122_120 := n6_; clear n0_ n1_ n2_ n3_ n4_ n5_ n6_; clear hb hbox hg; have hnb16 := NB122_120.out; have hnc16 := NB120_122.out; have hcz17_0 : w15.cell? ⟨gb122, 0, none⟩ = some (.string (⟨#[]⟩ : ByteArray)) := (blk_cell BK122.out 0).trans rfl; have hcz17_1 : w15.cell? ⟨gb122, 1, none⟩ = some (.int .i64 0) := (blk_cell BK122.out 1).trans rfl; have hfz17_0 := blk_frozen BK122.out 0; have hfz17_1 := blk_frozen BK122.out 1)))
          (try simp only [Act.put, List.setIfInBounds_toArray, List.set_cons_zero, List.set_cons_succ])
          go_cut [44] (fun v44 wc => ∃ (kq : Nat) (x44_12 : Bool), v44 = .bool x44_12 ∧ Aside0 (spec_BlockOk.j2 kq x3_2 x44_12 true l0_1 a0_2 ((rd_T69 l0_1 x3_2).f0) ((rd_T69 l0_1 x3_2).f1) = some r) ∧ Aside0 (kq ≤ k2) ∧ Aside0 (wc.heap[gb120]? = some (.cells #[.bool true, (.slice (some ad121) l0_1.length c0_1), .string a0_2] 59 (0, 0))) ∧ Aside0 (wc.heap[gb122]? = some (.cells #[.string ((rd_T69 l0_1 x3_2).f0), .int .i64 ((rd_T69 l0_1 x3_2).f1)] 69 (0, 0))) ∧ Aside0 (Below w.heap.size w wc))
          case first =>
           have H := HC13.out
           clear HC13
           by_cases c18 : ((rd_T69 l0_1 x3_2).f0).toList = ([] : List UInt8)
           ·rw [if_pos c18] at H
            have c18b0 : (((rd_T69 l0_1 x3_2).f0).toList == ([] : List UInt8)) = true := beq_iff_eq.mpr c18
            have c18b1 : (((rd_T69 l0_1 x3_2).f0).toList != ([] : List UInt8)) = false := bne_eq_false_iff_eq.mpr c18
            clear c18
            (first | rw [c18b0] | (simp only [i64_w, i32_w]; rw [c18b0]) | skip)
            have H' := Aside0.mk H
            clear H
            have hnb19 := NB122_120.out
            have hnc19 := NB120_122.out
            have hcz20_0 : w15.cell? ⟨gb122, 0, none⟩ = some (.string (⟨#[]⟩ : ByteArray)) := (blk_cell BK122.out 0).trans rfl
            have hcz20_1 : w15.cell? ⟨gb122, 1, none⟩ = some (.int .i64 0) := (blk_cell BK122.out 1).trans rfl
            have hfz20_0 := blk_frozen BK122.out 0
            have hfz20_1 := blk_frozen BK122.out 1
            go_wp2
            repeat (go_quiet (fail); try go_wp2)
            go_meet
            case rel => exact ⟨_, ((((rd_T69 l0_1 x3_2).f1) == 0)), qz, H', ⟨by have := HJ2.out; have := HK2.out; first | omega | exact Nat.le_refl _⟩, ⟨by refine qK ?_; refine blk_far ?_ NB120_122.out _; refine qK ?_; refine blk_far ?_ NB120_122.out _; refine qK ?_; exact BK120.out⟩, ⟨by refine qK ?_; refine blk_put (cs := #[.string ((rd_T69 l0_1 x3_2).f0), .int .i64 0]) ?_ 1 _ rfl; refine qK ?_; refine blk_put (cs := #[.string (⟨#[]⟩ : ByteArray), .int .i64 0]) ?_ 0 _ rfl; refine qK ?_; exact BK122.out⟩, ⟨qb2 HB.out GE120.out GE122.out⟩⟩
           ·rw [if_neg c18] at H
            have c18b0 : (((rd_T69 l0_1 x3_2).f0).toList == ([] : List UInt8)) = false := beq_eq_false_iff_ne.mpr c18
            have c18b1 : (((rd_T69 l0_1 x3_2).f0).toList != ([] : List UInt8)) = true := bne_iff_ne.mpr c18
            (first | rw [c18b0] | (simp only [i64_w, i32_w]; rw [c18b0]) | skip)
            have H' := Aside0.mk H
            clear H
            have hnb21 := NB122_120.out
            have hnc21 := NB120_122.out
            have hcz22_0 : w15.cell? ⟨gb122, 0, none⟩ = some (.string (⟨#[]⟩ : ByteArray)) := (blk_cell BK122.out 0).trans rfl
            have hcz22_1 : w15.cell? ⟨gb122, 1, none⟩ = some (.int .i64 0) := (blk_cell BK122.out 1).trans rfl
            have hfz22_0 := blk_frozen BK122.out 0
            have hfz22_1 := blk_frozen BK122.out 1
            go_wp2
            repeat (go_quiet (fail); try go_wp2)
            go_meet
            case rel => exact ⟨_, (false), qz, H', ⟨by have := HJ2.out; have := HK2.out; first | omega | exact Nat.le_refl _⟩, ⟨by refine qK ?_; refine blk_far ?_ NB120_122.out _; refine qK ?_; refine blk_far ?_ NB120_122.out _; refine qK ?_; exact BK120.out⟩, ⟨by refine qK ?_; refine blk_put (cs := #[.string ((rd_T69 l0_1 x3_2).f0), .int .i64 0]) ?_ 1 _ rfl; refine qK ?_; refine blk_put (cs := #[.string (⟨#[]⟩ : ByteArray), .int .i64 0]) ?_ 0 _ rfl; refine qK ?_; exact BK122.out⟩, ⟨qb2 HB.out GE120.out GE122.out⟩⟩
          case rest =>
           clear HC13
           try clear c1
           try clear p1
           try clear q1
           try clear hx1
           try clear c2
           try clear p2
           try clear c3
           try clear c6
           try clear c6b0
           try clear c6b1
           try clear c9
           try clear c10
           try clear c10b0
           try clear c11
           try clear c11b0
           try clear c12
           try clear c12b0
           try clear p12
           try clear q12
           try clear hx12
           try clear c16
           try clear c18
           try clear c18b0
           try clear c18b1
           try clear c19
           try clear c21
           try clear hcz14_0
           try clear hcz14_1
           try clear hcz14_2
           try clear hcz17_0
           try clear hcz17_1
           try clear hcz20_0
           try clear hcz20_1
           try clear hcz22_0
           try clear hcz22_1
           try clear hcz5_0
           try clear hcz5_1
           try clear hcz5_2
           try clear hcz7_0
           try clear hcz7_1
           try clear hcz7_2
           try clear hcz8_0
           try clear hcz8_1
           try clear hcz8_2
           try clear hfz14_0
           try clear hfz14_1
           try clear hfz14_2
           try clear hfz17_0
           try clear hfz17_1
           try clear hfz20_0
           try clear hfz20_1
           try clear hfz22_0
           try clear hfz22_1
           try clear hfz5_0
           try clear hfz5_1
           try clear hfz5_2
           try clear hfz7_0
           try clear hfz7_1
           try clear hfz7_2
           try clear hfz8_0
           try clear hfz8_1
           try clear hfz8_2
           try clear hx121_0
           try clear hx121_1
           try clear p121
           try clear p2
           try clear q121
           obtain ⟨kq, x44_12, rfl, HA, HJ12, BK120, BK122, HB⟩ := hcut
           cases kq with
           | zero => exact absurd HA.out (by simp [spec_BlockOk.j2])
           | succ kj12 =>
            have H := HA.out
            clear HA
            simp only [spec_BlockOk.j2] at H
            by_cases c23 : x44_12 = true
            ·subst c23
             have H1 : (spec_BlockOk.l0 kj12 (wrap64 (x3_2 + 1)) true l0_1 a0_2) = some r := by rw [if_pos rfl] at H; exact H
             clear H
             have H := H1
             clear H1
             have H' := Aside0.mk H
             clear H
             go_wp2
             repeat (go_quiet (fail); try go_wp2)
             go_roundg kj12
             case measure => have := HJ2.out; have := HK2.out; have := HJ12.out; omega
             case rel => exact ⟨(wrap64 (x3_2 + 1)), qz, H', ⟨by have := HJ2.out; have := HK2.out; have := HJ12.out; omega⟩, ⟨qk BK120.out⟩, ⟨qb2 HB.out GE120.out GE122.out⟩⟩
            ·replace c23 := Bool.eq_false_iff.mpr c23
             subst c23
             have H1 : ((spec_NameOk.f kj12 ((rd_T69 l0_1 x3_2).f0)).bind fun t123 => (if t123 = true then ((spec_l01In.f ((rd_T69 l0_1 x3_2).f1) 1 8).bind fun t124 => (spec_BlockOk.j3 kj12 x3_2 (!t124) true l0_1 a0_2 ((rd_T69 l0_1 x3_2).f0) ((rd_T69 l0_1 x3_2).f1))) else (spec_BlockOk.j3 kj12 x3_2 true true l0_1 a0_2 ((rd_T69 l0_1 x3_2).f0) ((rd_T69 l0_1 x3_2).f1)))) = some r := by rw [if_neg (show ¬ (false = true) by decide)] at H; exact H
             clear H
             have H := H1
             clear H1
             have HC24 := Aside0.mk H
             clear H
             go_upto_region 10 with (fail)
             repeat (go_quiet (fail); go_upto_region 10 with (fail))
             go_cut [54] (fun v54 wc => ∃ (kq : Nat) (x54_23 : Bool), v54 = .bool x54_23 ∧ Aside0 (spec_BlockOk.j3 kq x3_2 x54_23 true l0_1 a0_2 ((rd_T69 l0_1 x3_2).f0) ((rd_T69 l0_1 x3_2).f1) = some r) ∧ Aside0 (kq ≤ kj12) ∧ Aside0 (wc.heap[gb120]? = some (.cells #[.bool true, (.slice (some ad121) l0_1.length c0_1), .string a0_2] 59 (0, 0))) ∧ Aside0 (wc.heap[gb122]? = some (.cells #[.string ((rd_T69 l0_1 x3_2).f0), .int .i64 ((rd_T69 l0_1 x3_2).f1)] 69 (0, 0))) ∧ Aside0 (Below w.heap.size w wc))
             case first =>
              have H := HC24.out
              clear HC24
              replace H := Option.bind_eq_some_iff.mp H
              obtain ⟨t123, A250, H⟩ := H
              replace H : (if t123 = true then ((spec_l01In.f ((rd_T69 l0_1 x3_2).f1) 1 8).bind fun t124 => (spec_BlockOk.j3 kj12 x3_2 (!t124) true l0_1 a0_2 ((rd_T69 l0_1 x3_2).f0) ((rd_T69 l0_1 x3_2).f1))) else (spec_BlockOk.j3 kj12 x3_2 true true l0_1 a0_2 ((rd_T69 l0_1 x3_2).f0) ((rd_T69 l0_1 x3_2).f1))) = some r := H
              have A25 := Aside0.mk A250
              clear A250
              by_cases c26 : t123 = true
              ·subst c26
               have H1 : ((spec_l01In.f ((rd_T69 l0_1 x3_2).f1) 1 8).bind fun t124 => (spec_BlockOk.j3 kj12 x3_2 (!t124) true l0_1 a0_2 ((rd_T69 l0_1 x3_2).f0) ((rd_T69 l0_1 x3_2).f1))) = some r := by rw [if_pos rfl] at H; exact H
               clear H
               have H := H1
               clear H1
               replace H := Option.bind_eq_some_iff.mp H
               obtain ⟨t124, A270, H⟩ := H
               replace H : (spec_BlockOk.j3 kj12 x3_2 (!t124) true l0_1 a0_2 ((rd_T69 l0_1 x3_2).f0) ((rd_T69 l0_1 x3_2).f1)) = some r := H
               have A27 := Aside0.mk A270
               clear A270
               have H' := Aside0.mk H
               clear H
               have hnb28 := NB122_120.out
               have hnc28 := NB120_122.out
               have hcz29_0 : wc.cell? ⟨gb122, 0, none⟩ = some (.string ((rd_T69 l0_1 x3_2).f0)) := (blk_cell BK122.out 0).trans rfl
               have hcz29_1 : wc.cell? ⟨gb122, 1, none⟩ = some (.int .i64 ((rd_T69 l0_1 x3_2).f1)) := (blk_cell BK122.out 1).trans rfl
               have hfz29_0 := blk_frozen BK122.out 0
               have hfz29_1 := blk_frozen BK122.out 1
               go_wp2_with (first | (go_at_call 41; (with_reducible refine (spec_NameOk.calls kj12 ((rd_T69 l0_1 x3_2).f0) true _ A25.out).mono ?_); rintro e w' ⟨rfl, ⟨nd, rfl⟩⟩; (try first | exact ⟨rfl, _, World.drewN_drewN _ _ _⟩ | exact ⟨rfl, _, Eq.trans (World.drewN_drewN _ _ _) (congrArg (World.drewN _) (Nat.add_assoc _ _ _))⟩)) | (go_at_call 93; (with_reducible refine (spec_l01In.calls ((rd_T69 l0_1 x3_2).f1) 1 8 t124 _ A27.out).mono ?_); rintro e w' ⟨rfl, ⟨nd, rfl⟩⟩; (try first | exact ⟨rfl, _, World.drewN_drewN _ _ _⟩ | exact ⟨rfl, _, Eq.trans (World.drewN_drewN _ _ _) (congrArg (World.drewN _) (Nat.add_assoc _ _ _))⟩)))
               repeat (go_quiet (first | (go_at_call 41; (with_reducible refine (spec_NameOk.calls kj12 ((rd_T69 l0_1 x3_2).f0) true _ A25.out).mono ?_); rintro e w' ⟨rfl, ⟨nd, rfl⟩⟩; (try first | exact ⟨rfl, _, World.drewN_drewN _ _ _⟩ | exact ⟨rfl, _, Eq.trans (World.drewN_drewN _ _ _) (congrArg (World.drewN _) (Nat.add_assoc _ _ _))⟩)) | (go_at_call 93; (with_reducible refine (spec_l01In.calls ((rd_T69 l0_1 x3_2).f1) 1 8 t124 _ A27.out).mono ?_); rintro e w' ⟨rfl, ⟨nd, rfl⟩⟩; (try first | exact ⟨rfl, _, World.drewN_drewN _ _ _⟩ | exact ⟨rfl, _, Eq.trans (World.drewN_drewN _ _ _) (congrArg (World.drewN _) (Nat.add_assoc _ _ _))⟩))); try go_wp2_with (first | (go_at_call 41; (with_reducible refine (spec_NameOk.calls kj12 ((rd_T69 l0_1 x3_2).f0) true _ A25.out).mono ?_); rintro e w' ⟨rfl, ⟨nd, rfl⟩⟩; (try first | exact ⟨rfl, _, World.drewN_drewN _ _ _⟩ | exact ⟨rfl, _, Eq.trans (World.drewN_drewN _ _ _) (congrArg (World.drewN _) (Nat.add_assoc _ _ _))⟩)) | (go_at_call 93; (with_reducible refine (spec_l01In.calls ((rd_T69 l0_1 x3_2).f1) 1 8 t124 _ A27.out).mono ?_); rintro e w' ⟨rfl, ⟨nd, rfl⟩⟩; (try first | exact ⟨rfl, _, World.drewN_drewN _ _ _⟩ | exact ⟨rfl, _, Eq.trans (World.drewN_drewN _ _ _) (congrArg (World.drewN _) (Nat.add_assoc _ _ _))⟩))))
               go_meet
               case rel => exact ⟨_, (!t124), qz, H', ⟨by have := HJ2.out; have := HK2.out; have := HJ12.out; first | omega | exact Nat.le_refl _⟩, ⟨qk BK120.out⟩, ⟨qk BK122.out⟩, ⟨qb2 HB.out GE120.out GE122.out⟩⟩
              ·replace c26 := Bool.eq_false_iff.mpr c26
               subst c26
               have H1 : (spec_BlockOk.j3 kj12 x3_2 true true l0_1 a0_2 ((rd_T69 l0_1 x3_2).f0) ((rd_T69 l0_1 x3_2).f1)) = some r := by rw [if_neg (show ¬ (false = true) by decide)] at H; exact H
               clear H
               have H := H1
               clear H1
               have H' := Aside0.mk H
               clear H
               have hnb30 := NB122_120.out
               have hnc30 := NB120_122.out
               have hcz31_0 : wc.cell? ⟨gb122, 0, none⟩ = some (.string ((rd_T69 l0_1 x3_2).f0)) := (blk_cell BK122.out 0).trans rfl
               have hcz31_1 : wc.cell? ⟨gb122, 1, none⟩ = some (.int .i64 ((rd_T69 l0_1 x3_2).f1)) := (blk_cell BK122.out 1).trans rfl
               have hfz31_0 := blk_frozen BK122.out 0
               have hfz31_1 := blk_frozen BK122.out 1
               go_wp2_with (first | (go_at_call 41; (with_reducible refine (spec_NameOk.calls kj12 ((rd_T69 l0_1 x3_2).f0) false _ A25.out).mono ?_); rintro e w' ⟨rfl, ⟨nd, rfl⟩⟩; (try first | exact ⟨rfl, _, World.drewN_drewN _ _ _⟩ | exact ⟨rfl, _, Eq.trans (World.drewN_drewN _ _ _) (congrArg (World.drewN _) (Nat.add_assoc _ _ _))⟩)))
               repeat (go_quiet (first | (go_at_call 41; (with_reducible refine (spec_NameOk.calls kj12 ((rd_T69 l0_1 x3_2).f0) false _ A25.out).mono ?_); rintro e w' ⟨rfl, ⟨nd, rfl⟩⟩; (try first | exact ⟨rfl, _, World.drewN_drewN _ _ _⟩ | exact ⟨rfl, _, Eq.trans (World.drewN_drewN _ _ _) (congrArg (World.drewN _) (Nat.add_assoc _ _ _))⟩))); try go_wp2_with (first | (go_at_call 41; (with_reducible refine (spec_NameOk.calls kj12 ((rd_T69 l0_1 x3_2).f0) false _ A25.out).mono ?_); rintro e w' ⟨rfl, ⟨nd, rfl⟩⟩; (try first | exact ⟨rfl, _, World.drewN_drewN _ _ _⟩ | exact ⟨rfl, _, Eq.trans (World.drewN_drewN _ _ _) (congrArg (World.drewN _) (Nat.add_assoc _ _ _))⟩))))
               go_meet
               case rel => exact ⟨_, (true), qz, H', ⟨by have := HJ2.out; have := HK2.out; have := HJ12.out; first | omega | exact Nat.le_refl _⟩, ⟨qk BK120.out⟩, ⟨qk BK122.out⟩, ⟨qb2 HB.out GE120.out GE122.out⟩⟩
             case rest =>
              clear HC24
              try clear c1
              try clear p1
              try clear q1
              try clear hx1
              try clear c2
              try clear p2
              try clear c3
              try clear c6
              try clear c6b0
              try clear c6b1
              try clear p6
              try clear c9
              try clear c10
              try clear c10b0
              try clear c11
              try clear c11b0
              try clear c12
              try clear c12b0
              try clear p12
              try clear q12
              try clear hx12
              try clear c16
              try clear c18
              try clear c18b0
              try clear c18b1
              try clear c19
              try clear c21
              try clear c23
              try clear c26
              try clear c28
              try clear c30
              try clear hcz14_0
              try clear hcz14_1
              try clear hcz14_2
              try clear hcz17_0
              try clear hcz17_1
              try clear hcz20_0
              try clear hcz20_1
              try clear hcz22_0
              try clear hcz22_1
              try clear hcz29_0
              try clear hcz29_1
              try clear hcz31_0
              try clear hcz31_1
              try clear hcz5_0
              try clear hcz5_1
              try clear hcz5_2
              try clear hcz7_0
              try clear hcz7_1
              try clear hcz7_2
              try clear hcz8_0
              try clear hcz8_1
              try clear hcz8_2
              try clear hfz14_0
              try clear hfz14_1
              try clear hfz14_2
              try clear hfz17_0
              try clear hfz17_1
              try clear hfz20_0
              try clear hfz20_1
              try clear hfz22_0
              try clear hfz22_1
              try clear hfz29_0
              try clear hfz29_1
              try clear hfz31_0
              try clear hfz31_1
              try clear hfz5_0
              try clear hfz5_1
              try clear hfz5_2
              try clear hfz7_0
              try clear hfz7_1
              try clear hfz7_2
              try clear hfz8_0
              try clear hfz8_1
              try clear hfz8_2
              try clear hx121_0
              try clear hx121_1
              try clear p1
              try clear p12
              try clear p121
              try clear p2
              try clear q1
              try clear q12
              try clear q121
              obtain ⟨kq, x54_23, rfl, HA, HJ23, BK120, BK122, HB⟩ := hcut
              cases kq with
              | zero => exact absurd HA.out (by simp [spec_BlockOk.j3])
              | succ kj23 =>
               have H := HA.out
               clear HA
               simp only [spec_BlockOk.j3] at H
               by_cases c32 : x54_23 = true
               ·subst c32
                have H1 : (some false) = some r := by rw [if_pos rfl] at H; exact H
                clear H
                have H := H1
                clear H1
                obtain rfl := Option.some.inj H
                go_wp2
                repeat (go_quiet (fail); try go_wp2)
                go_ret
                exact ⟨qe, qb2 HB.out GE120.out GE122.out⟩
               ·replace c32 := Bool.eq_false_iff.mpr c32
                subst c32
                have H1 : (spec_BlockOk.l1 kj23 x3_2 0 true l0_1 a0_2 ((rd_T69 l0_1 x3_2).f0) ((rd_T69 l0_1 x3_2).f1)) = some r := by rw [if_neg (show ¬ (false = true) by decide)] at H; exact H
                clear H
                have H := H1
                clear H1
                have H' := Aside0.mk H
                clear H
                go_wp2
                repeat (go_quiet (fail); try go_wp2)
                go_loopg [5] kj23 (fun kq v5 w' => ∃ (x5_5 : Int), v5 = .int .i64 x5_5 ∧ Aside0 (spec_BlockOk.l1 kq x3_2 x5_5 true l0_1 a0_2 ((rd_T69 l0_1 x3_2).f0) ((rd_T69 l0_1 x3_2).f1) = some r) ∧ Aside0 (kq ≤ kj23) ∧ Aside0 (w'.heap[gb120]? = some (.cells #[.bool true, (.slice (some ad121) l0_1.length c0_1), .string a0_2] 59 (0, 0))) ∧ Aside0 (w'.heap[gb122]? = some (.cells #[.string ((rd_T69 l0_1 x3_2).f0), .int .i64 ((rd_T69 l0_1 x3_2).f1)] 69 (0, 0))) ∧ Aside0 (Below w.heap.size w w'))
                case atStart => exact ⟨(0), qz, H', ⟨Nat.le_refl _⟩, ⟨qk BK120.out⟩, ⟨qk BK122.out⟩, ⟨qb2 HB.out GE120.out GE122.out⟩⟩
                case round =>
                 clear H'
                 try clear c1
                 try clear p1
                 try clear q1
                 try clear hx1
                 try clear c2
                 try clear p2
                 try clear c3
                 try clear c6
                 try clear c6b0
                 try clear c6b1
                 try clear p6
                 try clear c9
                 try clear c10
                 try clear c10b0
                 try clear c11
                 try clear c11b0
                 try clear c12
                 try clear c12b0
                 try clear p12
                 try clear q12
                 try clear hx12
                 try clear c16
                 try clear c18
                 try clear c18b0
                 try clear c18b1
                 try clear c19
                 try clear c21
                 try clear c23
                 try clear c26
                 try clear c28
                 try clear c30
                 try clear c32
                 try clear hcz14_0
                 try clear hcz14_1
                 try clear hcz14_2
                 try clear hcz17_0
                 try clear hcz17_1
                 try clear hcz20_0
                 try clear hcz20_1
                 try clear hcz22_0
                 try clear hcz22_1
                 try clear hcz29_0
                 try clear hcz29_1
                 try clear hcz31_0
                 try clear hcz31_1
                 try clear hcz5_0
                 try clear hcz5_1
                 try clear hcz5_2
                 try clear hcz7_0
                 try clear hcz7_1
                 try clear hcz7_2
                 try clear hcz8_0
                 try clear hcz8_1
                 try clear hcz8_2
                 try clear hfz14_0
                 try clear hfz14_1
                 try clear hfz14_2
                 try clear hfz17_0
                 try clear hfz17_1
                 try clear hfz20_0
                 try clear hfz20_1
                 try clear hfz22_0
                 try clear hfz22_1
                 try clear hfz29_0
                 try clear hfz29_1
                 try clear hfz31_0
                 try clear hfz31_1
                 try clear hfz5_0
                 try clear hfz5_1
                 try clear hfz5_2
                 try clear hfz7_0
                 try clear hfz7_1
                 try clear hfz7_2
                 try clear hfz8_0
                 try clear hfz8_1
                 try clear hfz8_2
                 try clear hx121_0
                 try clear hx121_1
                 try clear p1
                 try clear p12
                 try clear p121
                 try clear p2
                 try clear p6
                 try clear q1
                 try clear q12
                 try clear q121
                 obtain ⟨x5_5, rfl, HA, HK5, BK120, BK122, HB⟩ := hrel
                 cases gk with
                 | zero => exact absurd HA.out (by simp [spec_BlockOk.l1])
                 | succ k5 =>
                  have H := HA.out
                  clear HA
                  simp only [spec_BlockOk.l1] at H
                  by_cases c33 : x5_5 < x3_2
                  ·rw [if_pos c33] at H
                   have c33b0 : decide (x5_5 < x3_2) = true := decide_eq_true c33
                   clear c33
                   by_cases c34 : 0 ≤ x5_5
                   ·rw [if_pos c34] at H
                    have c34b0 : decide (0 ≤ x5_5) = true := decide_eq_true c34
                    clear c34
                    by_cases c35 : x5_5 < (l0_1.length : Int)
                    ·rw [if_pos c35] at H
                     have c35b0 : decide (x5_5 < (l0_1.length : Int)) = true := decide_eq_true c35
                     clear c35
                     by_cases c36 : ((rd_T69 l0_1 x5_5).f0).toList = ((rd_T69 l0_1 x3_2).f0).toList
                     ·rw [if_pos c36] at H
                      have c36b0 : (((rd_T69 l0_1 x5_5).f0).toList == ((rd_T69 l0_1 x3_2).f0).toList) = true := beq_iff_eq.mpr c36
                      have c36b1 : (((rd_T69 l0_1 x5_5).f0).toList != ((rd_T69 l0_1 x3_2).f0).toList) = false := bne_eq_false_iff_eq.mpr c36
                      clear c36
                      obtain rfl := Option.some.inj H
                      have hnb37 := NB120_122.out
                      have hnc37 := NB122_120.out
                      have hcz38_0 : wr.cell? ⟨gb120, 0, none⟩ = some (.bool true) := (blk_cell BK120.out 0).trans rfl
                      have hcz38_1 : wr.cell? ⟨gb120, 1, none⟩ = some (.slice (some ad121) l0_1.length c0_1) := (blk_cell BK120.out 1).trans rfl
                      have hcz38_2 : wr.cell? ⟨gb120, 2, none⟩ = some (.string a0_2) := (blk_cell BK120.out 2).trans rfl
                      have hfz38_0 := blk_frozen BK120.out 0
                      have hfz38_1 := blk_frozen BK120.out 1
                      have hfz38_2 := blk_frozen BK120.out 2
                      have p125 : 0 ≤ (x5_5 : Int) := qo
                      have q125 : x5_5 < (l0_1.length : Int) := qo
                      obtain ⟨ad125, e125, hx125_0, hx125_1⟩ := at_T69 HR0_1.out x5_5 p125 q125
                      obtain rfl : ad121 = ad125 := (by injection e125)
                      replace hx125_0 := qc HB.out hx125_0
                      replace hx125_1 := qc HB.out hx125_1
                      replace p125 := eq_true p125
                      replace q125 := eq_true q125
                      have hcz39_0 : wr.cell? ⟨gb122, 0, none⟩ = some (.string ((rd_T69 l0_1 x3_2).f0)) := (blk_cell BK122.out 0).trans rfl
                      have hcz39_1 : wr.cell? ⟨gb122, 1, none⟩ = some (.int .i64 ((rd_T69 l0_1 x3_2).f1)) := (blk_cell BK122.out 1).trans rfl
                      have hfz39_0 := blk_frozen BK122.out 0
                      have hfz39_1 := blk_frozen BK122.out 1
                      go_wp2
                      repeat (go_quiet (fail); try go_wp2)
                      go_ret
                      exact ⟨qe, qb2 HB.out GE120.out GE122.out⟩
                     ·rw [if_neg c36] at H
                      have c36b0 : (((rd_T69 l0_1 x5_5).f0).toList == ((rd_T69 l0_1 x3_2).f0).toList) = false := beq_eq_false_iff_ne.mpr c36
                      have c36b1 : (((rd_T69 l0_1 x5_5).f0).toList != ((rd_T69 l0_1 x3_2).f0).toList) = true := bne_iff_ne.mpr c36
                      have H' := Aside0.mk H
                      clear H
                      have hnb40 := NB120_122.out
                      have hnc40 := NB122_120.out
                      have hcz41_0 : wr.cell? ⟨gb120, 0, none⟩ = some (.bool true) := (blk_cell BK120.out 0).trans rfl
                      have hcz41_1 : wr.cell? ⟨gb120, 1, none⟩ = some (.slice (some ad121) l0_1.length c0_1) := (blk_cell BK120.out 1).trans rfl
                      have hcz41_2 : wr.cell? ⟨gb120, 2, none⟩ = some (.string a0_2) := (blk_cell BK120.out 2).trans rfl
                      have hfz41_0 := blk_frozen BK120.out 0
                      have hfz41_1 := blk_frozen BK120.out 1
                      have hfz41_2 := blk_frozen BK120.out 2
                      have p125 : 0 ≤ (x5_5 : Int) := qo
                      have q125 : x5_5 < (l0_1.length : Int) := qo
                      obtain ⟨ad125, e125, hx125_0, hx125_1⟩ := at_T69 HR0_1.out x5_5 p125 q125
                      obtain rfl : ad121 = ad125 := (by injection e125)
                      replace hx125_0 := qc HB.out hx125_0
                      replace hx125_1 := qc HB.out hx125_1
                      replace p125 := eq_true p125
                      replace q125 := eq_true q125
                      have hcz42_0 : wr.cell? ⟨gb122, 0, none⟩ = some (.string ((rd_T69 l0_1 x3_2).f0)) := (blk_cell BK122.out 0).trans rfl
                      have hcz42_1 : wr.cell? ⟨gb122, 1, none⟩ = some (.int .i64 ((rd_T69 l0_1 x3_2).f1)) := (blk_cell BK122.out 1).trans rfl
                      have hfz42_0 := blk_frozen BK122.out 0
                      have hfz42_1 := blk_frozen BK122.out 1
                      go_wp2
                      repeat (go_quiet (fail); try go_wp2)
                      go_roundg k5
                      case measure => have := HJ2.out; have := HK2.out; have := HJ12.out; have := HJ23.out; have := HK5.out; omega
                      case rel => exact ⟨(wrap64 (x5_5 + 1)), qz, H', ⟨by have := HJ2.out; have := HK2.out; have := HJ12.out; have := HJ23.out; have := HK5.out; omega⟩, ⟨qk BK120.out⟩, ⟨qk BK122.out⟩, ⟨qb2 HB.out GE120.out GE122.out⟩⟩
                    ·rw [if_neg c35] at H
                     exact absurd H (by simp)
                   ·rw [if_neg c34] at H
                    exact absurd H (by simp)
                  ·rw [if_neg c33] at H
                   have c33b0 : decide (x5_5 < x3_2) = false := decide_eq_false c33
                   clear c33
                   have H' := Aside0.mk H
                   clear H
                   go_wp2
                   repeat (go_quiet (fail); try go_wp2)
                   go_roundg k5
                   case measure => have := HJ2.out; have := HK2.out; have := HJ12.out; have := HJ23.out; have := HK5.out; omega
                   case rel => exact ⟨(wrap64 (x3_2 + 1)), qz, H', ⟨by have := HJ2.out; have := HK2.out; have := HJ12.out; have := HJ23.out; have := HK5.out; omega⟩, ⟨qk BK120.out⟩, ⟨qb2 HB.out GE120.out GE122.out⟩⟩
         ·rw [if_neg c12] at H
          exact absurd H (by simp)
        ·rw [if_neg c11] at H
         exact absurd H (by simp)
       ·rw [if_neg c10] at H
        have c10b0 : decide (x3_2 < 4) = false := decide_eq_false c10
        clear c10
        obtain rfl := Option.some.inj H
        go_wp2
        repeat (go_quiet (fail); try go_wp2)
        go_ret
        exact ⟨qe, qb1 HB.out GE120.out⟩
 ·replace c2 := Bool.eq_false_iff.mpr c2
  subst c2
  have H1 : (if (l0_1.length : Int) = 0 then (some (decide ((a0_2.size : Int) ≤ 16))) else (some false)) = some r := by rw [if_neg (show ¬ (false = true) by decide)] at H; exact H
  clear H
  have H := H1
  clear H1
  by_cases c43 : (l0_1.length : Int) = 0
  ·rw [if_pos c43] at H
   have c43b0 : ((l0_1.length : Int) == 0) = true := beq_iff_eq.mpr c43
   have c43b1 : ((l0_1.length : Int) != 0) = false := bne_eq_false_iff_eq.mpr c43
   clear c43
   obtain rfl := Option.some.inj H
   go_enter Try.func33, Try.ntmps33
   go_wp2_with (first | ((with_reducible refine gate_dst (N := 1) rfl ?_); (try (refine gate_guard (by rfl) ?_; dsimp only)); refine box_event ?hg (N := 1) ?hd (cs := #[.bool false, .slice A0_1 l0_1.length c0_1, .string a0_2]) (t := 59) ?hr ?_; (case hd => rfl); (case hg => rfl); (case hr => first | (go_simp; done) | (go_simp; rfl)); intro gb120 hg w44 hbox hb; have n0_ := Aside0.mk (below_step (qb HB.out) hb); have n1_ := Aside0.mk (hbox); have n2_ := Aside0.mk ((by rw [hg]; exact (below_size (qb HB.out)) : w.heap.size ≤ gb120)); have n3_ := Aside0.mk ((by rw [hg]; exact (below_size (qb HB.out)) : w.heap.size ≤ gb120)); clear HB; have HB := n0_; have BK120 := n1_; have GW120 := n2_; have GE120 := n3_; clear n0_ n1_ n2_ n3_; clear hb hbox hg; have hcz45_0 : w44.cell? ⟨gb120, 0, none⟩ = some (.bool false) := (blk_cell BK120.out 0).trans rfl; have hcz45_1 : w44.cell? ⟨gb120, 1, none⟩ = some (.slice A0_1 l0_1.length c0_1) := (blk_cell BK120.out 1).trans rfl; have hcz45_2 : w44.cell? ⟨gb120, 2, none⟩ = some (.string a0_2) := (blk_cell BK120.out 2).trans rfl; have hfz45_0 := blk_frozen BK120.out 0; have hfz45_1 := blk_frozen BK120.out 1; have hfz45_2 := blk_frozen BK120.out 2))
   repeat (go_quiet (first | ((with_reducible refine gate_dst (N := 1) rfl ?_); (try (refine gate_guard (by rfl) ?_; dsimp only)); refine box_event ?hg (N := 1) ?hd (cs := #[.bool false, .slice A0_1 l0_1.length c0_1, .string a0_2]) (t := 59) ?hr ?_; (case hd => rfl); (case hg => rfl); (case hr => first | (go_simp; done) | (go_simp; rfl)); intro gb120 hg w44 hbox hb; have n0_ := Aside0.mk (below_step (qb HB.out) hb); have n1_ := Aside0.mk (hbox); have n2_ := Aside0.mk ((by rw [hg]; exact (below_size (qb HB.out)) : w.heap.size ≤ gb120)); have n3_ := Aside0.mk ((by rw [hg]; exact (below_size (qb HB.out)) : w.heap.size ≤ gb120)); clear HB; have HB := n0_; have BK120 := n1_; have GW120 := n2_; have GE120 := n3_; clear n0_ n1_ n2_ n3_; clear hb hbox hg; have hcz45_0 : w44.cell? ⟨gb120, 0, none⟩ = some (.bool false) := (blk_cell BK120.out 0).trans rfl; have hcz45_1 : w44.cell? ⟨gb120, 1, none⟩ = some (.slice A0_1 l0_1.length c0_1) := (blk_cell BK120.out 1).trans rfl; have hcz45_2 : w44.cell? ⟨gb120, 2, none⟩ = some (.string a0_2) := (blk_cell BK120.out 2).trans rfl; have hfz45_0 := blk_frozen BK120.out 0; have hfz45_1 := blk_frozen BK120.out 1; have hfz45_2 := blk_frozen BK120.out 2)); try go_wp2_with (first | ((with_reducible refine gate_dst (N := 1) rfl ?_); (try (refine gate_guard (by rfl) ?_; dsimp only)); refine box_event ?hg (N := 1) ?hd (cs := #[.bool false, .slice A0_1 l0_1.length c0_1, .string a0_2]) (t := 59) ?hr ?_; (case hd => rfl); (case hg => rfl); (case hr => first | (go_simp; done) | (go_simp; rfl)); intro gb120 hg w44 hbox hb; have n0_ := Aside0.mk (below_step (qb HB.out) hb); have n1_ := Aside0.mk (hbox); have n2_ := Aside0.mk ((by rw [hg]; exact (below_size (qb HB.out)) : w.heap.size ≤ gb120)); have n3_ := Aside0.mk ((by rw [hg]; exact (below_size (qb HB.out)) : w.heap.size ≤ gb120)); clear HB; have HB := n0_; have BK120 := n1_; have GW120 := n2_; have GE120 := n3_; clear n0_ n1_ n2_ n3_; clear hb hbox hg; have hcz45_0 : w44.cell? ⟨gb120, 0, none⟩ = some (.bool false) := (blk_cell BK120.out 0).trans rfl; have hcz45_1 : w44.cell? ⟨gb120, 1, none⟩ = some (.slice A0_1 l0_1.length c0_1) := (blk_cell BK120.out 1).trans rfl; have hcz45_2 : w44.cell? ⟨gb120, 2, none⟩ = some (.string a0_2) := (blk_cell BK120.out 2).trans rfl; have hfz45_0 := blk_frozen BK120.out 0; have hfz45_1 := blk_frozen BK120.out 1; have hfz45_2 := blk_frozen BK120.out 2)))
   go_ret
   exact ⟨qe, qb1 HB.out GE120.out⟩
  ·rw [if_neg c43] at H
   have c43b0 : ((l0_1.length : Int) == 0) = false := beq_eq_false_iff_ne.mpr c43
   have c43b1 : ((l0_1.length : Int) != 0) = true := bne_iff_ne.mpr c43
   have c43b2 : ¬ (l0_1 = []) := fun h_ => c43 (by rw [h_]; rfl)
   obtain rfl := Option.some.inj H
   go_enter Try.func33, Try.ntmps33
   go_wp2_with (first | ((with_reducible refine gate_dst (N := 1) rfl ?_); (try (refine gate_guard (by rfl) ?_; dsimp only)); refine box_event ?hg (N := 1) ?hd (cs := #[.bool false, .slice A0_1 l0_1.length c0_1, .string a0_2]) (t := 59) ?hr ?_; (case hd => rfl); (case hg => rfl); (case hr => first | (go_simp; done) | (go_simp; rfl)); intro gb120 hg w46 hbox hb; have n0_ := Aside0.mk (below_step (qb HB.out) hb); have n1_ := Aside0.mk (hbox); have n2_ := Aside0.mk ((by rw [hg]; exact (below_size (qb HB.out)) : w.heap.size ≤ gb120)); have n3_ := Aside0.mk ((by rw [hg]; exact (below_size (qb HB.out)) : w.heap.size ≤ gb120)); clear HB; have HB := n0_; have BK120 := n1_; have GW120 := n2_; have GE120 := n3_; clear n0_ n1_ n2_ n3_; clear hb hbox hg; have hcz47_0 : w46.cell? ⟨gb120, 0, none⟩ = some (.bool false) := (blk_cell BK120.out 0).trans rfl; have hcz47_1 : w46.cell? ⟨gb120, 1, none⟩ = some (.slice A0_1 l0_1.length c0_1) := (blk_cell BK120.out 1).trans rfl; have hcz47_2 : w46.cell? ⟨gb120, 2, none⟩ = some (.string a0_2) := (blk_cell BK120.out 2).trans rfl; have hfz47_0 := blk_frozen BK120.out 0; have hfz47_1 := blk_frozen BK120.out 1; have hfz47_2 := blk_frozen BK120.out 2))
   repeat (go_quiet (first | ((with_reducible refine gate_dst (N := 1) rfl ?_); (try (refine gate_guard (by rfl) ?_; dsimp only)); refine box_event ?hg (N := 1) ?hd (cs := #[.bool false, .slice A0_1 l0_1.length c0_1, .string a0_2]) (t := 59) ?hr ?_; (case hd => rfl); (case hg => rfl); (case hr => first | (go_simp; done) | (go_simp; rfl)); intro gb120 hg w46 hbox hb; have n0_ := Aside0.mk (below_step (qb HB.out) hb); have n1_ := Aside0.mk (hbox); have n2_ := Aside0.mk ((by rw [hg]; exact (below_size (qb HB.out)) : w.heap.size ≤ gb120)); have n3_ := Aside0.mk ((by rw [hg]; exact (below_size (qb HB.out)) : w.heap.size ≤ gb120)); clear HB; have HB := n0_; have BK120 := n1_; have GW120 := n2_; have GE120 := n3_; clear n0_ n1_ n2_ n3_; clear hb hbox hg; have hcz47_0 : w46.cell? ⟨gb120, 0, none⟩ = some (.bool false) := (blk_cell BK120.out 0).trans rfl; have hcz47_1 : w46.cell? ⟨gb120, 1, none⟩ = some (.slice A0_1 l0_1.length c0_1) := (blk_cell BK120.out 1).trans rfl; have hcz47_2 : w46.cell? ⟨gb120, 2, none⟩ = some (.string a0_2) := (blk_cell BK120.out 2).trans rfl; have hfz47_0 := blk_frozen BK120.out 0; have hfz47_1 := blk_frozen BK120.out 1; have hfz47_2 := blk_frozen BK120.out 2)); try go_wp2_with (first | ((with_reducible refine gate_dst (N := 1) rfl ?_); (try (refine gate_guard (by rfl) ?_; dsimp only)); refine box_event ?hg (N := 1) ?hd (cs := #[.bool false, .slice A0_1 l0_1.length c0_1, .string a0_2]) (t := 59) ?hr ?_; (case hd => rfl); (case hg => rfl); (case hr => first | (go_simp; done) | (go_simp; rfl)); intro gb120 hg w46 hbox hb; have n0_ := Aside0.mk (below_step (qb HB.out) hb); have n1_ := Aside0.mk (hbox); have n2_ := Aside0.mk ((by rw [hg]; exact (below_size (qb HB.out)) : w.heap.size ≤ gb120)); have n3_ := Aside0.mk ((by rw [hg]; exact (below_size (qb HB.out)) : w.heap.size ≤ gb120)); clear HB; have HB := n0_; have BK120 := n1_; have GW120 := n2_; have GE120 := n3_; clear n0_ n1_ n2_ n3_; clear hb hbox hg; have hcz47_0 : w46.cell? ⟨gb120, 0, none⟩ = some (.bool false) := (blk_cell BK120.out 0).trans rfl; have hcz47_1 : w46.cell? ⟨gb120, 1, none⟩ = some (.slice A0_1 l0_1.length c0_1) := (blk_cell BK120.out 1).trans rfl; have hcz47_2 : w46.cell? ⟨gb120, 2, none⟩ = some (.string a0_2) := (blk_cell BK120.out 2).trans rfl; have hfz47_0 := blk_frozen BK120.out 0; have hfz47_1 := blk_frozen BK120.out 1; have hfz47_2 := blk_frozen BK120.out 2)))
   go_ret
   exact ⟨qe, qb1 HB.out GE120.out⟩

/-! ### spec_BitsOk: function 117 -/
def spec_BitsOk.f (l0_0 : List Bool) (l0_1 : List Bool) : Option (Bool) := if (l0_0.length : Int) = 16 then (some ((l0_1.length : Int) == 8)) else (some false)
set_option maxHeartbeats 8000000 in
set_option maxRecDepth 100000 in
theorem spec_BitsOk.calls (A0_0 : Option Addr) (c0_0 : Nat) (l0_0 : List Bool) (A0_1 : Option Addr) (c0_1 : Nat) (l0_1 : List Bool) (r : Bool) (w : World) (hr0_0 : Kd.C Kd.bool w A0_0 l0_0.length l0_0) (hc0_0 : l0_0.length ≤ c0_0) (hr0_1 : Kd.C Kd.bool w A0_1 l0_1.length l0_1) (hc0_1 : l0_1.length ≤ c0_1) (h : spec_BitsOk.f l0_0 l0_1 = some r) :
  Calls Try.prog 117 #[.agg #[.slice A0_0 l0_0.length c0_0, .slice A0_1 l0_1.length c0_1]] w fun e w' => e = .returned (.bool r) ∧ Below w.heap.size w w' := by
 have hu35 := Try.underlying35
 have HR0_0 := Aside0.mk hr0_0
 have HC0_0 := Aside0.mk hc0_0
 clear hr0_0 hc0_0
 have HR0_1 := Aside0.mk hr0_1
 have HC0_1 := Aside0.mk hc0_1
 clear hr0_1 hc0_1
 have HB := Aside0.mk (Below.refl w.heap.size w)
 have H : (if (l0_0.length : Int) = 16 then (some ((l0_1.length : Int) == 8)) else (some false)) = some r := h
 clear h
 by_cases c2 : (l0_0.length : Int) = 16
 ·rw [if_pos c2] at H
  have c2b0 : ((l0_0.length : Int) == 16) = true := beq_iff_eq.mpr c2
  have c2b1 : ((l0_0.length : Int) != 16) = false := bne_eq_false_iff_eq.mpr c2
  clear c2
  obtain rfl := Option.some.inj H
  go_enter Try.func117, Try.ntmps117
  go_wp2_with (first | ((with_reducible refine gate_dst (N := 1) rfl ?_); (try (refine gate_guard (by rfl) ?_; dsimp only)); refine box_event ?hg (N := 1) ?hd (cs := #[.slice A0_0 l0_0.length c0_0, .slice A0_1 l0_1.length c0_1]) (t := 35) ?hr ?_; (case hd => rfl); (case hg => rfl); (case hr => first | (go_simp; done) | (go_simp; rfl)); intro gb126 hg w3 hbox hb; have n0_ := Aside0.mk (below_step (qb HB.out) hb); have n1_ := Aside0.mk (hbox); have n2_ := Aside0.mk ((by rw [hg]; exact (below_size (qb HB.out)) : w.heap.size ≤ gb126)); have n3_ := Aside0.mk ((by rw [hg]; exact (below_size (qb HB.out)) : w.heap.size ≤ gb126)); clear HB; have HB := n0_; have BK126 := n1_; have GW126 := n2_; have GE126 := n3_; clear n0_ n1_ n2_ n3_; clear hb hbox hg; have hcz4_0 : w3.cell? ⟨gb126, 0, none⟩ = some (.slice A0_0 l0_0.length c0_0) := (blk_cell BK126.out 0).trans rfl; have hcz4_1 : w3.cell? ⟨gb126, 1, none⟩ = some (.slice A0_1 l0_1.length c0_1) := (blk_cell BK126.out 1).trans rfl; have hfz4_0 := blk_frozen BK126.out 0; have hfz4_1 := blk_frozen BK126.out 1))
  go_ret
  exact ⟨qe, qb1 HB.out GE126.out⟩
 ·rw [if_neg c2] at H
  have c2b0 : ((l0_0.length : Int) == 16) = false := beq_eq_false_iff_ne.mpr c2
  have c2b1 : ((l0_0.length : Int) != 16) = true := bne_iff_ne.mpr c2
  obtain rfl := Option.some.inj H
  go_enter Try.func117, Try.ntmps117
  go_wp2_with (first | ((with_reducible refine gate_dst (N := 1) rfl ?_); (try (refine gate_guard (by rfl) ?_; dsimp only)); refine box_event ?hg (N := 1) ?hd (cs := #[.slice A0_0 l0_0.length c0_0, .slice A0_1 l0_1.length c0_1]) (t := 35) ?hr ?_; (case hd => rfl); (case hg => rfl); (case hr => first | (go_simp; done) | (go_simp; rfl)); intro gb126 hg w5 hbox hb; have n0_ := Aside0.mk (below_step (qb HB.out) hb); have n1_ := Aside0.mk (hbox); have n2_ := Aside0.mk ((by rw [hg]; exact (below_size (qb HB.out)) : w.heap.size ≤ gb126)); have n3_ := Aside0.mk ((by rw [hg]; exact (below_size (qb HB.out)) : w.heap.size ≤ gb126)); clear HB; have HB := n0_; have BK126 := n1_; have GW126 := n2_; have GE126 := n3_; clear n0_ n1_ n2_ n3_; clear hb hbox hg; have hcz6_0 : w5.cell? ⟨gb126, 0, none⟩ = some (.slice A0_0 l0_0.length c0_0) := (blk_cell BK126.out 0).trans rfl; have hcz6_1 : w5.cell? ⟨gb126, 1, none⟩ = some (.slice A0_1 l0_1.length c0_1) := (blk_cell BK126.out 1).trans rfl; have hfz6_0 := blk_frozen BK126.out 0; have hfz6_1 := blk_frozen BK126.out 1))
  go_ret
  exact ⟨qe, qb1 HB.out GE126.out⟩

end Go.Proofs.Ytdnbpapolckklaa.PFnExactDeviceOf
