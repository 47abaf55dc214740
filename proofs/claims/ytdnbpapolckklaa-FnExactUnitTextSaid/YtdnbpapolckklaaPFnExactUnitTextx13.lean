-- Written by a program of this session (a changed copy of the kit's print: wip/print2). Lean checks it.
import Derived.Test.YtdnbpapolckklaaPFnExactUnitTextx0
import Derived.Test.YtdnbpapolckklaaPFnExactUnitTextx12
namespace Go.Proofs.Ytdnbpapolckklaa.PFnExactUnitText
open Go.RowKit Go.Proofs.YtdnbpapolckklaaW.PrintWords Go.Proofs.YtdnbpapolckklaaW.PrintLast Go.Proofs.YtdnbpapolckklaaW.PrintMore
attribute [local go_sem] max2_int min2_int max_two min_two max_three min_three max_four min_four   -- for this text's walks alone
attribute [local go_sem] Go.Proofs.Ytdnbpapolckklaa.Pad.isSome_setCell
set_option linter.unusedVariables false
set_option linter.unusedSimpArgs false

/-! ### impl_BlockText: function 43 -/
def impl_BlockText.l0 : Nat → ByteArray → List (S69) → Int → Int → Option (ByteArray × Bool)
 | 0, _, _, _, _ => none
 | k + 1, x4, x19, x20, x21 => if x21 < x20 then (if 0 ≤ x21 then (if x21 < (x19.length : Int) then ((impl_ShortText.f k ((rd_T69 x19 x21).f0)).bind fun bt330 => ((impl_byteTexts.f k (([(rd_T69 x19 x21).f1] : List Int))).bind fun t335 => (if t335.size + bt330.1.size ≤ 9223372036854775807 then (if x4.size + (t335 ++ bt330.1).size ≤ 9223372036854775807 then (impl_BlockText.l0 k (x4 ++ (t335 ++ bt330.1)) x19 x20 (wrap64 (x21 + 1))) else (none)) else (none)))) else (none)) else (none)) else (some (x4, true))
def impl_BlockText.f (k : Nat) (a0_0 : Bool) (l0_1 : List (S69)) (a0_2 : ByteArray) : Option (ByteArray × Bool) := (impl_BlockOk.f k a0_0 l0_1 a0_2).bind fun t327 => (if t327 = true then (if a0_0 = true then (impl_BlockText.l0 k (⟨#[100]⟩ : ByteArray) l0_1 (l0_1.length : Int) 0) else (if 1 + a0_2.size ≤ 9223372036854775807 then (some ((⟨#[116]⟩ : ByteArray) ++ a0_2, true)) else (none))) else (some ((⟨#[]⟩ : ByteArray), false)))
theorem impl_BlockText.mono_l : ∀ k, (∀ y0 y1 y2 y3, LeO (impl_BlockText.l0 k y0 y1 y2 y3) (impl_BlockText.l0 (k + 1) y0 y1 y2 y3))
 | 0 => fun _ _ _ _ r h => by simp [impl_BlockText.l0] at h
 | k + 1 => by
  have ih0 := impl_BlockText.mono_l k
  ·intro y0 y1 y2 y3
   unfold impl_BlockText.l0
   repeat' first
   | (with_reducible exact ih0 _ _ _ _)
   | (with_reducible exact impl_BlockOk.mono _ _ _ _)
   | (with_reducible exact impl_ShortText.mono _ _)
   | (with_reducible exact impl_byteTexts.mono _ _)
   | with_reducible first | exact LeO.refl _ | exact LeO.none _ | refine LeO.ite ?_ ?_ | refine LeO.bind ?_ (fun _ => ?_)
   | exact ih0 _ _ _ _
   | exact impl_BlockOk.mono _ _ _ _
   | exact impl_ShortText.mono _ _
   | exact impl_byteTexts.mono _ _
   | exact LeO.none _
   | refine LeO.ite ?_ ?_
   | refine LeO.bind ?_ (fun _ => ?_)
theorem impl_BlockText.mono : ∀ a0 a1 a2 k, LeO (impl_BlockText.f k a0 a1 a2) (impl_BlockText.f (k + 1) a0 a1 a2) := by
 intro a0 a1 a2 k
 have ih0 := impl_BlockText.mono_l k
 unfold impl_BlockText.f
 repeat' first
   | (with_reducible exact ih0 _ _ _ _)
   | (with_reducible exact impl_BlockOk.mono _ _ _ _)
   | (with_reducible exact impl_ShortText.mono _ _)
   | (with_reducible exact impl_byteTexts.mono _ _)
   | with_reducible first | exact LeO.refl _ | exact LeO.none _ | refine LeO.ite ?_ ?_ | refine LeO.bind ?_ (fun _ => ?_)
   | exact ih0 _ _ _ _
   | exact impl_BlockOk.mono _ _ _ _
   | exact impl_ShortText.mono _ _
   | exact impl_byteTexts.mono _ _
   | exact LeO.none _
   | refine LeO.ite ?_ ?_
   | refine LeO.bind ?_ (fun _ => ?_)
set_option maxHeartbeats 8000000 in
set_option maxRecDepth 100000 in
theorem impl_BlockText.calls (k : Nat) (a0_0 : Bool) (A0_1 : Option Addr) (c0_1 : Nat) (l0_1 : List (S69)) (a0_2 : ByteArray) (r1 : ByteArray) (r2 : Bool) (w : World) (hr0_1 : Kd.C k69 w A0_1 l0_1.length l0_1) (hc0_1 : l0_1.length ≤ c0_1) (h : impl_BlockText.f k a0_0 l0_1 a0_2 = some (r1, r2)) :
  Calls Try.prog 43 #[.agg #[.bool a0_0, .slice A0_1 l0_1.length c0_1, .string a0_2]] w fun e w' => e = .returned (.tuple #[.string r1, .bool r2]) ∧ Below w.heap.size w w' := by
 have hu59 := Try.underlying59
 have hu69 := Try.underlying69
 have HR0_1 := Aside0.mk hr0_1
 have HC0_1 := Aside0.mk hc0_1
 clear hr0_1 hc0_1
 have HB := Aside0.mk (Below.refl w.heap.size w)
 have H : ((impl_BlockOk.f k a0_0 l0_1 a0_2).bind fun t327 => (if t327 = true then (if a0_0 = true then (impl_BlockText.l0 k (⟨#[100]⟩ : ByteArray) l0_1 (l0_1.length : Int) 0) else (if 1 + a0_2.size ≤ 9223372036854775807 then (some ((⟨#[116]⟩ : ByteArray) ++ a0_2, true)) else (none))) else (some ((⟨#[]⟩ : ByteArray), false)))) = some (r1, r2) := h
 clear h
 replace H := Option.bind_eq_some_iff.mp H
 obtain ⟨t327, A20, H⟩ := H
 replace H : (if t327 = true then (if a0_0 = true then (impl_BlockText.l0 k (⟨#[100]⟩ : ByteArray) l0_1 (l0_1.length : Int) 0) else (if 1 + a0_2.size ≤ 9223372036854775807 then (some ((⟨#[116]⟩ : ByteArray) ++ a0_2, true)) else (none))) else (some ((⟨#[]⟩ : ByteArray), false))) = some (r1, r2) := H
 have A2 := Aside0.mk A20
 clear A20
 by_cases c3 : t327 = true
 ·subst c3
  have H1 : (if a0_0 = true then (impl_BlockText.l0 k (⟨#[100]⟩ : ByteArray) l0_1 (l0_1.length : Int) 0) else (if 1 + a0_2.size ≤ 9223372036854775807 then (some ((⟨#[116]⟩ : ByteArray) ++ a0_2, true)) else (none))) = some (r1, r2) := by rw [if_pos rfl] at H; exact H
  clear H
  have H := H1
  clear H1
  by_cases c4 : a0_0 = true
  ·subst c4
   have H1 : (impl_BlockText.l0 k (⟨#[100]⟩ : ByteArray) l0_1 (l0_1.length : Int) 0) = some (r1, r2) := by rw [if_pos rfl] at H; exact H
   clear H
   have H := H1
   clear H1
   have H' := Aside0.mk H
   clear H
   go_enter Try.func43, Try.ntmps43
   go_wp2_with (first | ((with_reducible refine gate_dst (N := 1) rfl ?_); refine box_event ?hg (N := 1) ?hd (cs := #[.bool true, .slice A0_1 l0_1.length c0_1, .string a0_2]) (t := 59) ?hr ?_; (case hd => rfl); (case hg => rfl); (case hr => first | (go_simp; done) | (go_simp; rfl)); intro gb326 hg w5 hbox hb; have n0_ := Aside0.mk (below_step (qb HB.out) hb); have n1_ := Aside0.mk (hbox); have n2_ := Aside0.mk ((by rw [hg]; exact (below_size (qb HB.out)) : w.heap.size ≤ gb326)); have n3_ := Aside0.mk ((by rw [hg]; exact (below_size (qb HB.out)) : w.heap.size ≤ gb326)); clear HB; have HB := n0_; have BK326 := n1_; have GW326 := n2_; have GE326 := n3_; clear n0_ n1_ n2_ n3_; clear hb hbox hg; have hcz6_0 : w5.cell? ⟨gb326, 0, none⟩ = some (.bool true) := (blk_cell BK326.out 0).trans rfl; have hcz6_1 : w5.cell? ⟨gb326, 1, none⟩ = some (.slice A0_1 l0_1.length c0_1) := (blk_cell BK326.out 1).trans rfl; have hcz6_2 : w5.cell? ⟨gb326, 2, none⟩ = some (.string a0_2) := (blk_cell BK326.out 2).trans rfl; have hfz6_0 := blk_frozen BK326.out 0; have hfz6_1 := blk_frozen BK326.out 1; have hfz6_2 := blk_frozen BK326.out 2) | ((with_reducible refine gate_callee (f := 34) rfl ?_); refine goesL_ (some 10) rfl rfl Try.func34 (by kernel_rfl) rfl #[.agg #[.bool true, .slice A0_1 l0_1.length c0_1, .string a0_2]] rfl qm ?_; (with_reducible refine (impl_BlockOk.calls k true _ _ l0_1 a0_2 true _ ?side1 ?side2 A2.out).mono ?_); (case side1 => repeat (first | exact (Kd.C_below HR0_1.out HB.out) | (with_reducible refine Kd.C_alloc ?_ _) | (with_reducible refine Kd.C_drewN ?_ _) | (with_reducible refine Kd.C_drew ?_))); (case side2 => exact HC0_1.out); rintro e w7 ⟨rfl, hb⟩; refine ⟨_, rfl, ?_⟩; have n0_ := Aside0.mk (blk_below (g := gb326) (o := .cells #[.bool true, .slice A0_1 l0_1.length c0_1, .string a0_2] 59 (0, 0)) (qk BK326.out) hb); have n1_ := Aside0.mk (below_step (qb1 HB.out GE326.out) hb); clear BK326; clear HB; have BK326 := n0_; have HB := n1_; clear n0_ n1_; (try clear hb); (try clear hb2); (try clear hk); (try clear hi); have hcz8_0 : w7.cell? ⟨gb326, 0, none⟩ = some (.bool true) := (blk_cell BK326.out 0).trans rfl; have hcz8_1 : w7.cell? ⟨gb326, 1, none⟩ = some (.slice A0_1 l0_1.length c0_1) := (blk_cell BK326.out 1).trans rfl; have hcz8_2 : w7.cell? ⟨gb326, 2, none⟩ = some (.string a0_2) := (blk_cell BK326.out 2).trans rfl; have hfz8_0 := blk_frozen BK326.out 0; have hfz8_1 := blk_frozen BK326.out 1; have hfz8_2 := blk_frozen BK326.out 2))
   go_loopg [4, 21] k (fun kq v4 v21 w' => ∃ (x4_1 : ByteArray) (x21_1 : Int), v4 = .string x4_1 ∧ v21 = .int .i64 x21_1 ∧ Aside0 (impl_BlockText.l0 kq x4_1 l0_1 (l0_1.length : Int) x21_1 = some (r1, r2)) ∧ Aside0 (kq ≤ k) ∧ Aside0 (w'.heap[gb326]? = some (.cells #[.bool true, (.slice A0_1 l0_1.length c0_1), .string a0_2] 59 (0, 0))) ∧ Aside0 (Below w.heap.size w w'))
   case atStart => exact ⟨((⟨#[100]⟩ : ByteArray)), (0), qz, qz, H', ⟨Nat.le_refl _⟩, ⟨qk BK326.out⟩, ⟨qb1 HB.out GE326.out⟩⟩
   case round =>
    clear H'
    try clear p2
    try clear c3
    try clear c4
    try clear hcz6_0
    try clear hcz6_1
    try clear hcz6_2
    try clear hcz8_0
    try clear hcz8_1
    try clear hcz8_2
    try clear hfz6_0
    try clear hfz6_1
    try clear hfz6_2
    try clear hfz8_0
    try clear hfz8_1
    try clear hfz8_2
    obtain ⟨x4_1, x21_1, rfl, rfl, HA, HK1, BK326, HB⟩ := hrel
    cases gk with
    | zero => exact absurd HA.out (by simp [impl_BlockText.l0])
    | succ k1 =>
     have H := HA.out
     clear HA
     simp only [impl_BlockText.l0] at H
     by_cases c9 : x21_1 < (l0_1.length : Int)
     ·rw [if_pos c9] at H
      have c9b0 : decide (x21_1 < (l0_1.length : Int)) = true := decide_eq_true c9
      clear c9
      by_cases c10 : 0 ≤ x21_1
      ·rw [if_pos c10] at H
       have c10b0 : decide (0 ≤ x21_1) = true := decide_eq_true c10
       clear c10
       by_cases c11 : x21_1 < (l0_1.length : Int)
       ·rw [if_pos c11] at H
        have c11b0 : decide (x21_1 < (l0_1.length : Int)) = true := decide_eq_true c11
        clear c11
        replace H := Option.bind_eq_some_iff.mp H
        obtain ⟨⟨t330, t331⟩, A120, H⟩ := H
        replace H : ((impl_byteTexts.f k1 (([(rd_T69 l0_1 x21_1).f1] : List Int))).bind fun t335 => (if t335.size + t330.size ≤ 9223372036854775807 then (if x4_1.size + (t335 ++ t330).size ≤ 9223372036854775807 then (impl_BlockText.l0 k1 (x4_1 ++ (t335 ++ t330)) l0_1 (l0_1.length : Int) (wrap64 (x21_1 + 1))) else (none)) else (none))) = some (r1, r2) := H
        have A12 := Aside0.mk A120
        clear A120
        obtain ⟨y332, hy332⟩ : ∃ y_ : List Int, y_ = (([(rd_T69 l0_1 x21_1).f1] : List Int)) := ⟨_, rfl⟩
        replace H : ((impl_byteTexts.f k1 y332).bind fun t335 => (if t335.size + t330.size ≤ 9223372036854775807 then (if x4_1.size + (t335 ++ t330).size ≤ 9223372036854775807 then (impl_BlockText.l0 k1 (x4_1 ++ (t335 ++ t330)) l0_1 (l0_1.length : Int) (wrap64 (x21_1 + 1))) else (none)) else (none))) = some (r1, r2) := by first | (rw [hy332]; with_reducible exact H) | (have H2_ := (Option.bind_some _ _).symm.trans H; rw [hy332]; with_reducible exact H2_) | (have H2_ := (Option.bind_some _ _).symm.trans H; with_reducible exact H2_) | with_reducible exact H | (rw [hy332]; exact H) | exact H
        have Ny332 := Aside0.mk hy332
        clear hy332
        replace H := Option.bind_eq_some_iff.mp H
        obtain ⟨t335, A130, H⟩ := H
        replace H : (if t335.size + t330.size ≤ 9223372036854775807 then (if x4_1.size + (t335 ++ t330).size ≤ 9223372036854775807 then (impl_BlockText.l0 k1 (x4_1 ++ (t335 ++ t330)) l0_1 (l0_1.length : Int) (wrap64 (x21_1 + 1))) else (none)) else (none)) = some (r1, r2) := H
        have A13 := Aside0.mk A130
        clear A130
        by_cases c14 : t335.size + t330.size ≤ 9223372036854775807
        ·rw [if_pos c14] at H
         have c14b0 := eq_true c14
         have c14b1 : decide (t335.size + t330.size ≤ 9223372036854775807) = true := decide_eq_true c14
         try have c14b2 : (9223372036854775807 < t335.size + t330.size) = False := eq_false (Nat.not_lt.2 c14)
         by_cases c15 : x4_1.size + (t335 ++ t330).size ≤ 9223372036854775807
         ·rw [if_pos c15] at H
          have c15b0 := eq_true c15
          have c15b1 : decide (x4_1.size + (t335 ++ t330).size ≤ 9223372036854775807) = true := decide_eq_true c15
          try have c15b2 : (9223372036854775807 < x4_1.size + (t335 ++ t330).size) = False := eq_false (Nat.not_lt.2 c15)
          try have c15b3 : (9223372036854775807 < x4_1.size + t335.size + t330.size) = False := eq_false (by have h_ := c15; simp only [ByteArray.size_append, ByteArray.size_extract] at h_; omega)
          have H' := Aside0.mk H
          clear H
          have p328 : 0 ≤ (x21_1 : Int) := qo
          have q328 : x21_1 < (l0_1.length : Int) := qo
          obtain ⟨ad328, e328, hx328_0, hx328_1⟩ := at_T69 HR0_1.out x21_1 p328 q328
          cases e328
          replace hx328_0 := qc HB.out hx328_0
          replace hx328_1 := qc HB.out hx328_1
          replace p328 := eq_true p328
          replace q328 := eq_true q328
          go_wp2_with (first | ((with_reducible refine gate_dst (N := 6) rfl ?_); refine box_event ?hg (N := 6) ?hd (cs := #[.string (⟨#[]⟩ : ByteArray), .int .i64 0]) (t := 69) ?hr ?_; (case hd => rfl); (case hg => rfl); (case hr => first | (go_simp; done) | (go_simp; rfl)); intro gb329 hg w16 hbox hb; have n0_ := Aside0.mk (blk_below (g := gb326) (o := .cells #[.bool true, .slice (some ad328) l0_1.length c0_1, .string a0_2] 59 (0, 0)) (qk BK326.out) hb); have n1_ := Aside0.mk (below_step (qb1 HB.out GE326.out) hb); have n2_ := Aside0.mk (hbox); have n3_ := Aside0.mk ((by rw [hg]; exact (below_size (qb1 HB.out GE326.out)) : w.heap.size ≤ gb329)); have n4_ := Aside0.mk ((by rw [hg]; exact (below_size (qb1 HB.out GE326.out)) : w.heap.size ≤ gb329)); have n5_ := Aside0.mk ((by rw [hg]; exact Nat.ne_of_lt (blk_lt (g := gb326) (o := .cells #[.bool true, .slice (some ad328) l0_1.length c0_1, .string a0_2] 59 (0, 0)) (qk BK326.out)) : gb326 ≠ gb329)); have n6_ := Aside0.mk ((by rw [hg]; exact Nat.ne_of_gt (blk_lt (g := gb326) (o := .cells #[.bool true, .slice (some ad328) l0_1.length c0_1, .string a0_2] 59 (0, 0)) (qk BK326.out)) : gb329 ≠ gb326)); clear BK326; clear HB; have BK326 := n0_; have HB := n1_; have BK329 := n2_; have GW329 := n3_; have GE329 := n4_; have NB326_329 := n5_; have NB329_326 := n6_; clear n0_ n1_ n2_ n3_ n4_ n5_ n6_; clear hb hbox hg; have hnb17 := NB329_326.out; have hnc17 := NB326_329.out; have hcz18_0 : w16.cell? ⟨gb329, 0, none⟩ = some (.string (⟨#[]⟩ : ByteArray)) := (blk_cell BK329.out 0).trans rfl; have hcz18_1 : w16.cell? ⟨gb329, 1, none⟩ = some (.int .i64 0) := (blk_cell BK329.out 1).trans rfl; have hfz18_0 := blk_frozen BK329.out 0; have hfz18_1 := blk_frozen BK329.out 1) | ((with_reducible refine gate_callee (f := 103) rfl ?_); refine goesL_ (some 28) rfl rfl Try.func103 (by kernel_rfl) rfl #[.string ((rd_T69 l0_1 x21_1).f0)] rfl qm ?_; (with_reducible refine (impl_ShortText.calls k1 ((rd_T69 l0_1 x21_1).f0) t330 t331 _ A12.out).mono ?_); rintro e w19 ⟨rfl, hb⟩; refine ⟨_, rfl, ?_⟩; have n0_ := Aside0.mk (blk_below (g := gb326) (o := .cells #[.bool true, .slice (some ad328) l0_1.length c0_1, .string a0_2] 59 (0, 0)) (by refine qK ?_; refine blk_far ?_ NB326_329.out _; refine qK ?_; refine blk_far ?_ NB326_329.out _; refine qK ?_; exact BK326.out) hb); have n1_ := Aside0.mk (blk_below (g := gb329) (o := .cells #[.string ((rd_T69 l0_1 x21_1).f0), .int .i64 ((rd_T69 l0_1 x21_1).f1)] 69 (0, 0)) (by refine qK ?_; refine blk_put (cs := #[.string ((rd_T69 l0_1 x21_1).f0), .int .i64 0]) ?_ 1 _ rfl; refine qK ?_; refine blk_put (cs := #[.string (⟨#[]⟩ : ByteArray), .int .i64 0]) ?_ 0 _ rfl; refine qK ?_; exact BK329.out) hb); have n2_ := Aside0.mk (below_step (qb2 HB.out GE326.out GE329.out) hb); clear BK326; clear BK329; clear HB; have BK326 := n0_; have BK329 := n1_; have HB := n2_; clear n0_ n1_ n2_; (try clear hb); (try clear hb2); (try clear hk); (try clear hi); have hcz20_0 : w19.cell? ⟨gb329, 0, none⟩ = some (.string ((rd_T69 l0_1 x21_1).f0)) := (blk_cell BK329.out 0).trans rfl; have hcz20_1 : w19.cell? ⟨gb329, 1, none⟩ = some (.int .i64 ((rd_T69 l0_1 x21_1).f1)) := (blk_cell BK329.out 1).trans rfl; have hfz20_0 := blk_frozen BK329.out 0; have hfz20_1 := blk_frozen BK329.out 1) | ((with_reducible refine gate_dst (N := 34) rfl ?_); refine Kd.R_lit (Kd.int .i64) _ 3 ?hg (N := 34) ?hd (xs := ([(rd_T69 l0_1 x21_1).f1] : List Int)) (inner := [.int .i64 ((rd_T69 l0_1 x21_1).f1)]) (ok := fun _ => True) (okp := fun _ => True) ?hr ?hp (fun _ hk => hk) trivial (Below.refl _ _) (Nat.le_refl _) (by simp) ?_; (case hd => rfl); (case hg => rfl); (case hr => first | (go_simp; done) | (go_simp; rfl)); (case hp => exact (Reps.one (show Kd.M (Kd.int .i64) _ _ _ ((rd_T69 l0_1 x21_1).f1) [.int .i64 ((rd_T69 l0_1 x21_1).f1)] from rfl) (Reps.none _ _))); intro v333 w21 ho22 hb hg_ hnew_; clear hg_ hnew_; (first | rw [← Ny332.out] at ho22 | (simp only [Int.reduceToNat] at ho22; rw [← Ny332.out] at ho22)); have n0_ := Aside0.mk (Kd.R_lower ho22 (below_size (qb2 HB.out GE326.out GE329.out))); have n1_ := Aside0.mk (blk_below (g := gb326) (o := .cells #[.bool true, .slice (some ad328) l0_1.length c0_1, .string a0_2] 59 (0, 0)) (qk BK326.out) hb); have n2_ := Aside0.mk (blk_below (g := gb329) (o := .cells #[.string ((rd_T69 l0_1 x21_1).f0), .int .i64 ((rd_T69 l0_1 x21_1).f1)] 69 (0, 0)) (qk BK329.out) hb); have n3_ := Aside0.mk (below_step (qb2 HB.out GE326.out GE329.out) hb); clear BK326; clear BK329; clear HB; have HO334 := n0_; have BK326 := n1_; have BK329 := n2_; have HB := n3_; clear n0_ n1_ n2_ n3_; clear hb ho22; obtain ⟨Ao23, co23, eo23⟩ := Kd.R_slice HO334.out; subst eo23) | ((with_reducible refine gate_callee (f := 83) rfl ?_); refine goesL_ (some 35) rfl rfl Try.func83 (by kernel_rfl) rfl #[.slice Ao23 y332.length co23] rfl qm ?_; (with_reducible refine (impl_byteTexts.calls k1 _ _ y332 t335 _ ?side1 ?side2 A13.out).mono ?_); (case side1 => repeat (first | exact (Kd.R_reads' HO334.out).2.2 | (with_reducible refine Kd.C_alloc ?_ _) | (with_reducible refine Kd.C_drewN ?_ _) | (with_reducible refine Kd.C_drew ?_))); (case side2 => exact (Kd.R_reads' HO334.out).2.1); rintro e w24 ⟨rfl, hb⟩; refine ⟨_, rfl, ?_⟩; have n0_ := Aside0.mk (Kd.R_below (qr HO334.out) hb); have n1_ := Aside0.mk (blk_below (g := gb326) (o := .cells #[.bool true, .slice (some ad328) l0_1.length c0_1, .string a0_2] 59 (0, 0)) (qk BK326.out) hb); have n2_ := Aside0.mk (blk_below (g := gb329) (o := .cells #[.string ((rd_T69 l0_1 x21_1).f0), .int .i64 ((rd_T69 l0_1 x21_1).f1)] 69 (0, 0)) (qk BK329.out) hb); have n3_ := Aside0.mk (below_step (qb2 HB.out GE326.out GE329.out) hb); clear HO334; clear BK326; clear BK329; clear HB; have HO334 := n0_; have BK326 := n1_; have BK329 := n2_; have HB := n3_; clear n0_ n1_ n2_ n3_; (try clear hb); (try clear hb2); (try clear hk); (try clear hi)))
          go_roundg k1
          case measure => have := HK1.out; omega
          case rel => exact ⟨(x4_1 ++ (t335 ++ t330)), (wrap64 (x21_1 + 1)), qz, qz, H', ⟨by have := HK1.out; omega⟩, ⟨qk BK326.out⟩, ⟨qb2 HB.out GE326.out GE329.out⟩⟩
         ·rw [if_neg c15] at H
          exact absurd H (by simp)
        ·rw [if_neg c14] at H
         exact absurd H (by simp)
       ·rw [if_neg c11] at H
        exact absurd H (by simp)
      ·rw [if_neg c10] at H
       exact absurd H (by simp)
     ·rw [if_neg c9] at H
      have c9b0 : decide (x21_1 < (l0_1.length : Int)) = false := decide_eq_false c9
      clear c9
      simp only [Option.some.injEq, Prod.mk.injEq] at H
      obtain ⟨rfl, rfl⟩ := H
      go_wp2
      go_ret2
      exact ⟨qe, qb1 HB.out GE326.out⟩
  ·replace c4 := Bool.eq_false_iff.mpr c4
   subst c4
   have H1 : (if 1 + a0_2.size ≤ 9223372036854775807 then (some ((⟨#[116]⟩ : ByteArray) ++ a0_2, true)) else (none)) = some (r1, r2) := by rw [if_neg (show ¬ (false = true) by decide)] at H; exact H
   clear H
   have H := H1
   clear H1
   by_cases c25 : 1 + a0_2.size ≤ 9223372036854775807
   ·rw [if_pos c25] at H
    have c25b0 := eq_true c25
    have c25b1 : decide (1 + a0_2.size ≤ 9223372036854775807) = true := decide_eq_true c25
    try have c25b2 : (9223372036854775807 < 1 + a0_2.size) = False := eq_false (Nat.not_lt.2 c25)
    simp only [Option.some.injEq, Prod.mk.injEq] at H
    obtain ⟨rfl, rfl⟩ := H
    go_enter Try.func43, Try.ntmps43
    go_wp2_with (first | ((with_reducible refine gate_dst (N := 1) rfl ?_); refine box_event ?hg (N := 1) ?hd (cs := #[.bool false, .slice A0_1 l0_1.length c0_1, .string a0_2]) (t := 59) ?hr ?_; (case hd => rfl); (case hg => rfl); (case hr => first | (go_simp; done) | (go_simp; rfl)); intro gb326 hg w26 hbox hb; have n0_ := Aside0.mk (below_step (qb HB.out) hb); have n1_ := Aside0.mk (hbox); have n2_ := Aside0.mk ((by rw [hg]; exact (below_size (qb HB.out)) : w.heap.size ≤ gb326)); have n3_ := Aside0.mk ((by rw [hg]; exact (below_size (qb HB.out)) : w.heap.size ≤ gb326)); clear HB; have HB := n0_; have BK326 := n1_; have GW326 := n2_; have GE326 := n3_; clear n0_ n1_ n2_ n3_; clear hb hbox hg; have hcz27_0 : w26.cell? ⟨gb326, 0, none⟩ = some (.bool false) := (blk_cell BK326.out 0).trans rfl; have hcz27_1 : w26.cell? ⟨gb326, 1, none⟩ = some (.slice A0_1 l0_1.length c0_1) := (blk_cell BK326.out 1).trans rfl; have hcz27_2 : w26.cell? ⟨gb326, 2, none⟩ = some (.string a0_2) := (blk_cell BK326.out 2).trans rfl; have hfz27_0 := blk_frozen BK326.out 0; have hfz27_1 := blk_frozen BK326.out 1; have hfz27_2 := blk_frozen BK326.out 2) | ((with_reducible refine gate_callee (f := 34) rfl ?_); refine goesL_ (some 10) rfl rfl Try.func34 (by kernel_rfl) rfl #[.agg #[.bool false, .slice A0_1 l0_1.length c0_1, .string a0_2]] rfl qm ?_; (with_reducible refine (impl_BlockOk.calls k false _ _ l0_1 a0_2 true _ ?side1 ?side2 A2.out).mono ?_); (case side1 => repeat (first | exact (Kd.C_below HR0_1.out HB.out) | (with_reducible refine Kd.C_alloc ?_ _) | (with_reducible refine Kd.C_drewN ?_ _) | (with_reducible refine Kd.C_drew ?_))); (case side2 => exact HC0_1.out); rintro e w28 ⟨rfl, hb⟩; refine ⟨_, rfl, ?_⟩; have n0_ := Aside0.mk (blk_below (g := gb326) (o := .cells #[.bool false, .slice A0_1 l0_1.length c0_1, .string a0_2] 59 (0, 0)) (qk BK326.out) hb); have n1_ := Aside0.mk (below_step (qb1 HB.out GE326.out) hb); clear BK326; clear HB; have BK326 := n0_; have HB := n1_; clear n0_ n1_; (try clear hb); (try clear hb2); (try clear hk); (try clear hi); have hcz29_0 : w28.cell? ⟨gb326, 0, none⟩ = some (.bool false) := (blk_cell BK326.out 0).trans rfl; have hcz29_1 : w28.cell? ⟨gb326, 1, none⟩ = some (.slice A0_1 l0_1.length c0_1) := (blk_cell BK326.out 1).trans rfl; have hcz29_2 : w28.cell? ⟨gb326, 2, none⟩ = some (.string a0_2) := (blk_cell BK326.out 2).trans rfl; have hfz29_0 := blk_frozen BK326.out 0; have hfz29_1 := blk_frozen BK326.out 1; have hfz29_2 := blk_frozen BK326.out 2))
    go_ret2
    exact ⟨qe, qb1 HB.out GE326.out⟩
   ·rw [if_neg c25] at H
    exact absurd H (by simp)
 ·replace c3 := Bool.eq_false_iff.mpr c3
  subst c3
  have H1 : (some ((⟨#[]⟩ : ByteArray), false)) = some (r1, r2) := by rw [if_neg (show ¬ (false = true) by decide)] at H; exact H
  clear H
  have H := H1
  clear H1
  simp only [Option.some.injEq, Prod.mk.injEq] at H
  obtain ⟨rfl, rfl⟩ := H
  go_enter Try.func43, Try.ntmps43
  go_wp2_with (first | ((with_reducible refine gate_dst (N := 1) rfl ?_); refine box_event ?hg (N := 1) ?hd (cs := #[.bool a0_0, .slice A0_1 l0_1.length c0_1, .string a0_2]) (t := 59) ?hr ?_; (case hd => rfl); (case hg => rfl); (case hr => first | (go_simp; done) | (go_simp; rfl)); intro gb326 hg w30 hbox hb; have n0_ := Aside0.mk (below_step (qb HB.out) hb); have n1_ := Aside0.mk (hbox); have n2_ := Aside0.mk ((by rw [hg]; exact (below_size (qb HB.out)) : w.heap.size ≤ gb326)); have n3_ := Aside0.mk ((by rw [hg]; exact (below_size (qb HB.out)) : w.heap.size ≤ gb326)); clear HB; have HB := n0_; have BK326 := n1_; have GW326 := n2_; have GE326 := n3_; clear n0_ n1_ n2_ n3_; clear hb hbox hg; have hcz31_0 : w30.cell? ⟨gb326, 0, none⟩ = some (.bool a0_0) := (blk_cell BK326.out 0).trans rfl; have hcz31_1 : w30.cell? ⟨gb326, 1, none⟩ = some (.slice A0_1 l0_1.length c0_1) := (blk_cell BK326.out 1).trans rfl; have hcz31_2 : w30.cell? ⟨gb326, 2, none⟩ = some (.string a0_2) := (blk_cell BK326.out 2).trans rfl; have hfz31_0 := blk_frozen BK326.out 0; have hfz31_1 := blk_frozen BK326.out 1; have hfz31_2 := blk_frozen BK326.out 2) | ((with_reducible refine gate_callee (f := 34) rfl ?_); refine goesL_ (some 10) rfl rfl Try.func34 (by kernel_rfl) rfl #[.agg #[.bool a0_0, .slice A0_1 l0_1.length c0_1, .string a0_2]] rfl qm ?_; (with_reducible refine (impl_BlockOk.calls k a0_0 _ _ l0_1 a0_2 false _ ?side1 ?side2 A2.out).mono ?_); (case side1 => repeat (first | exact (Kd.C_below HR0_1.out HB.out) | (with_reducible refine Kd.C_alloc ?_ _) | (with_reducible refine Kd.C_drewN ?_ _) | (with_reducible refine Kd.C_drew ?_))); (case side2 => exact HC0_1.out); rintro e w32 ⟨rfl, hb⟩; refine ⟨_, rfl, ?_⟩; have n0_ := Aside0.mk (blk_below (g := gb326) (o := .cells #[.bool a0_0, .slice A0_1 l0_1.length c0_1, .string a0_2] 59 (0, 0)) (qk BK326.out) hb); have n1_ := Aside0.mk (below_step (qb1 HB.out GE326.out) hb); clear BK326; clear HB; have BK326 := n0_; have HB := n1_; clear n0_ n1_; (try clear hb); (try clear hb2); (try clear hk); (try clear hi)))
  go_ret2
  exact ⟨qe, qb1 HB.out GE326.out⟩

/-! ### impl_InodeOk: function 119 -/
def impl_InodeOk.l0 : Nat → List Int → Int → Int → Int → Int → List Int → Option (Bool)
 | 0, _, _, _, _, _, _ => none
 | k + 1, x6, x7, x8, x337000, x337001, x337002 => if x8 < x7 then (if 0 ≤ x8 then (if x8 < (x6.length : Int) then ((impl_within.f (rd x6 x8) 0 16).bind fun t338 => (if t338 = true then (if (rd x6 x8) = 0 then (impl_InodeOk.l0 k x6 x7 (wrap64 (x8 + 1)) x337000 x337001 x337002) else (if x337000 = 0 then (some false) else (impl_InodeOk.l0 k x6 x7 (wrap64 (x8 + 1)) x337000 x337001 x337002))) else (some false))) else (none)) else (none)) else ((impl_within.f x337000 0 2).bind fun t339 => (if t339 = true then ((impl_within.f x337001 0 200).bind fun t340 => (if t340 = true then (if (x337002.length : Int) = 2 then (if x337000 = 0 then (some (x337001 == 0)) else (some true)) else (some false)) else (some false))) else (some false)))
def impl_InodeOk.f (k : Nat) (a0_0 : Int) (a0_1 : Int) (l0_2 : List Int) : Option (Bool) := impl_InodeOk.l0 k l0_2 (l0_2.length : Int) 0 a0_0 a0_1 l0_2
theorem impl_InodeOk.mono_l : ∀ k, (∀ y0 y1 y2 y3 y4 y5, LeO (impl_InodeOk.l0 k y0 y1 y2 y3 y4 y5) (impl_InodeOk.l0 (k + 1) y0 y1 y2 y3 y4 y5))
 | 0 => fun _ _ _ _ _ _ r h => by simp [impl_InodeOk.l0] at h
 | k + 1 => by
  have ih0 := impl_InodeOk.mono_l k
  ·intro y0 y1 y2 y3 y4 y5
   unfold impl_InodeOk.l0
   repeat' first
   | (with_reducible exact ih0 _ _ _ _ _ _)
   | with_reducible first | exact LeO.refl _ | exact LeO.none _ | refine LeO.ite ?_ ?_ | refine LeO.bind ?_ (fun _ => ?_)
   | exact ih0 _ _ _ _ _ _
   | exact LeO.none _
   | refine LeO.ite ?_ ?_
   | refine LeO.bind ?_ (fun _ => ?_)
theorem impl_InodeOk.mono : ∀ a0 a1 a2 k, LeO (impl_InodeOk.f k a0 a1 a2) (impl_InodeOk.f (k + 1) a0 a1 a2) := by
 intro a0 a1 a2 k
 have ih0 := impl_InodeOk.mono_l k
 unfold impl_InodeOk.f
 repeat' first
   | (with_reducible exact ih0 _ _ _ _ _ _)
   | with_reducible first | exact LeO.refl _ | exact LeO.none _ | refine LeO.ite ?_ ?_ | refine LeO.bind ?_ (fun _ => ?_)
   | exact ih0 _ _ _ _ _ _
   | exact LeO.none _
   | refine LeO.ite ?_ ?_
   | refine LeO.bind ?_ (fun _ => ?_)
set_option maxHeartbeats 8000000 in
set_option maxRecDepth 100000 in
theorem impl_InodeOk.calls (k : Nat) (a0_0 : Int) (a0_1 : Int) (A0_2 : Option Addr) (c0_2 : Nat) (l0_2 : List Int) (r : Bool) (w : World) (hr0_2 : Kd.C (Kd.int .i64) w A0_2 l0_2.length l0_2) (hc0_2 : l0_2.length ≤ c0_2) (h : impl_InodeOk.f k a0_0 a0_1 l0_2 = some r) :
  Calls Try.prog 119 #[.agg #[.int .i64 a0_0, .int .i64 a0_1, .slice A0_2 l0_2.length c0_2]] w fun e w' => e = .returned (.bool r) ∧ Below w.heap.size w w' := by
 have hu105 := Try.underlying105
 have HR0_2 := Aside0.mk hr0_2
 have HC0_2 := Aside0.mk hc0_2
 clear hr0_2 hc0_2
 have HB := Aside0.mk (Below.refl w.heap.size w)
 have H : (impl_InodeOk.l0 k l0_2 (l0_2.length : Int) 0 a0_0 a0_1 l0_2) = some r := h
 clear h
 have H' := Aside0.mk H
 clear H
 go_enter Try.func119, Try.ntmps119
 go_wp2_with (first | ((with_reducible refine gate_dst (N := 1) rfl ?_); (try (refine gate_guard (by rfl) ?_; dsimp only)); refine box_event ?hg (N := 1) ?hd (cs := #[.int .i64 a0_0, .int .i64 a0_1, .slice A0_2 l0_2.length c0_2]) (t := 105) ?hr ?_; (case hd => rfl); (case hg => rfl); (case hr => first | (go_simp; done) | (go_simp; rfl)); intro gb336 hg w2 hbox hb; have n0_ := Aside0.mk (below_step (qb HB.out) hb); have n1_ := Aside0.mk (hbox); have n2_ := Aside0.mk ((by rw [hg]; exact (below_size (qb HB.out)) : w.heap.size ≤ gb336)); have n3_ := Aside0.mk ((by rw [hg]; exact (below_size (qb HB.out)) : w.heap.size ≤ gb336)); clear HB; have HB := n0_; have BK336 := n1_; have GW336 := n2_; have GE336 := n3_; clear n0_ n1_ n2_ n3_; clear hb hbox hg; have hcz3_0 : w2.cell? ⟨gb336, 0, none⟩ = some (.int .i64 a0_0) := (blk_cell BK336.out 0).trans rfl; have hcz3_1 : w2.cell? ⟨gb336, 1, none⟩ = some (.int .i64 a0_1) := (blk_cell BK336.out 1).trans rfl; have hcz3_2 : w2.cell? ⟨gb336, 2, none⟩ = some (.slice A0_2 l0_2.length c0_2) := (blk_cell BK336.out 2).trans rfl; have hfz3_0 := blk_frozen BK336.out 0; have hfz3_1 := blk_frozen BK336.out 1; have hfz3_2 := blk_frozen BK336.out 2))
 go_loopg [8] k (fun kq v8 w' => ∃ (x8_1 : Int), v8 = .int .i64 x8_1 ∧ Aside0 (impl_InodeOk.l0 kq l0_2 (l0_2.length : Int) x8_1 a0_0 a0_1 l0_2 = some r) ∧ Aside0 (kq ≤ k) ∧ Aside0 (w'.heap[gb336]? = some (.cells #[.int .i64 a0_0, .int .i64 a0_1, (.slice A0_2 l0_2.length c0_2)] 105 (0, 0))) ∧ Aside0 (Below w.heap.size w w'))
 case atStart => exact ⟨(0), qz, H', ⟨Nat.le_refl _⟩, ⟨qk BK336.out⟩, ⟨qb1 HB.out GE336.out⟩⟩
 case round =>
  clear H'
  try clear c1
  try clear p2
  try clear hcz3_0
  try clear hcz3_1
  try clear hcz3_2
  try clear hfz3_0
  try clear hfz3_1
  try clear hfz3_2
  obtain ⟨x8_1, rfl, HA, HK1, BK336, HB⟩ := hrel
  cases gk with
  | zero => exact absurd HA.out (by simp [impl_InodeOk.l0])
  | succ k1 =>
   have H := HA.out
   clear HA
   simp only [impl_InodeOk.l0] at H
   by_cases c4 : x8_1 < (l0_2.length : Int)
   ·rw [if_pos c4] at H
    have c4b0 : decide (x8_1 < (l0_2.length : Int)) = true := decide_eq_true c4
    clear c4
    by_cases c5 : 0 ≤ x8_1
    ·rw [if_pos c5] at H
     have c5b0 : decide (0 ≤ x8_1) = true := decide_eq_true c5
     clear c5
     by_cases c6 : x8_1 < (l0_2.length : Int)
     ·rw [if_pos c6] at H
      have c6b0 : decide (x8_1 < (l0_2.length : Int)) = true := decide_eq_true c6
      clear c6
      replace H := Option.bind_eq_some_iff.mp H
      obtain ⟨t338, A70, H⟩ := H
      replace H : (if t338 = true then (if (rd l0_2 x8_1) = 0 then (impl_InodeOk.l0 k1 l0_2 (l0_2.length : Int) (wrap64 (x8_1 + 1)) a0_0 a0_1 l0_2) else (if a0_0 = 0 then (some false) else (impl_InodeOk.l0 k1 l0_2 (l0_2.length : Int) (wrap64 (x8_1 + 1)) a0_0 a0_1 l0_2))) else (some false)) = some r := H
      have A7 := Aside0.mk A70
      clear A70
      by_cases c8 : t338 = true
      ·subst c8
       have H1 : (if (rd l0_2 x8_1) = 0 then (impl_InodeOk.l0 k1 l0_2 (l0_2.length : Int) (wrap64 (x8_1 + 1)) a0_0 a0_1 l0_2) else (if a0_0 = 0 then (some false) else (impl_InodeOk.l0 k1 l0_2 (l0_2.length : Int) (wrap64 (x8_1 + 1)) a0_0 a0_1 l0_2))) = some r := by rw [if_pos rfl] at H; exact H
       clear H
       have H := H1
       clear H1
       by_cases c9 : (rd l0_2 x8_1) = 0
       ·rw [if_pos c9] at H
        have c9b0 : ((rd l0_2 x8_1) == 0) = true := beq_iff_eq.mpr c9
        have c9b1 : ((rd l0_2 x8_1) != 0) = false := bne_eq_false_iff_eq.mpr c9
        clear c9
        have H' := Aside0.mk H
        clear H
        have p337 : 0 ≤ (x8_1 : Int) := qo
        have q337 : x8_1 < (l0_2.length : Int) := qo
        obtain ⟨ad337, e337, hx337_0⟩ := Kd.at_int HR0_2.out x8_1 p337 q337
        cases e337
        replace hx337_0 := qc HB.out hx337_0
        replace p337 := eq_true p337
        replace q337 := eq_true q337
        go_wp2_with (first | ((with_reducible refine gate_callee (f := 97) rfl ?_); refine goesL_ (some 13) rfl rfl Try.func97 (by kernel_rfl) rfl #[.int .i64 (rd l0_2 x8_1), .int .i64 0, .int .i64 16] rfl qm ?_; (with_reducible refine (impl_within.calls (rd l0_2 x8_1) 0 16 true _ A7.out).mono ?_); rintro e w' ⟨rfl, ⟨nd, rfl⟩⟩; refine ⟨_, rfl, ?_⟩))
        go_roundg k1
        case measure => have := HK1.out; omega
        case rel => exact ⟨(wrap64 (x8_1 + 1)), qz, H', ⟨by have := HK1.out; omega⟩, ⟨qk BK336.out⟩, ⟨qb1 HB.out GE336.out⟩⟩
       ·rw [if_neg c9] at H
        have c9b0 : ((rd l0_2 x8_1) == 0) = false := beq_eq_false_iff_ne.mpr c9
        have c9b1 : ((rd l0_2 x8_1) != 0) = true := bne_iff_ne.mpr c9
        by_cases c10 : a0_0 = 0
        ·rw [if_pos c10] at H
         have c10b0 : (a0_0 == 0) = true := beq_iff_eq.mpr c10
         have c10b1 : (a0_0 != 0) = false := bne_eq_false_iff_eq.mpr c10
         clear c10
         obtain rfl := Option.some.inj H
         have p337 : 0 ≤ (x8_1 : Int) := qo
         have q337 : x8_1 < (l0_2.length : Int) := qo
         obtain ⟨ad337, e337, hx337_0⟩ := Kd.at_int HR0_2.out x8_1 p337 q337
         cases e337
         replace hx337_0 := qc HB.out hx337_0
         replace p337 := eq_true p337
         replace q337 := eq_true q337
         go_wp2_with (first | ((with_reducible refine gate_callee (f := 97) rfl ?_); refine goesL_ (some 13) rfl rfl Try.func97 (by kernel_rfl) rfl #[.int .i64 (rd l0_2 x8_1), .int .i64 0, .int .i64 16] rfl qm ?_; (with_reducible refine (impl_within.calls (rd l0_2 x8_1) 0 16 true _ A7.out).mono ?_); rintro e w' ⟨rfl, ⟨nd, rfl⟩⟩; refine ⟨_, rfl, ?_⟩; have hcz11_0 : wr.cell? ⟨gb336, 0, none⟩ = some (.int .i64 a0_0) := (blk_cell BK336.out 0).trans rfl; have hcz11_1 : wr.cell? ⟨gb336, 1, none⟩ = some (.int .i64 a0_1) := (blk_cell BK336.out 1).trans rfl; have hcz11_2 : wr.cell? ⟨gb336, 2, none⟩ = some (.slice (some ad337) l0_2.length c0_2) := (blk_cell BK336.out 2).trans rfl; have hfz11_0 := blk_frozen BK336.out 0; have hfz11_1 := blk_frozen BK336.out 1; have hfz11_2 := blk_frozen BK336.out 2))
         go_ret
         exact ⟨qe, qb1 HB.out GE336.out⟩
        ·rw [if_neg c10] at H
         have c10b0 : (a0_0 == 0) = false := beq_eq_false_iff_ne.mpr c10
         have c10b1 : (a0_0 != 0) = true := bne_iff_ne.mpr c10
         have H' := Aside0.mk H
         clear H
         have p337 : 0 ≤ (x8_1 : Int) := qo
         have q337 : x8_1 < (l0_2.length : Int) := qo
         obtain ⟨ad337, e337, hx337_0⟩ := Kd.at_int HR0_2.out x8_1 p337 q337
         cases e337
         replace hx337_0 := qc HB.out hx337_0
         replace p337 := eq_true p337
         replace q337 := eq_true q337
         go_wp2_with (first | ((with_reducible refine gate_callee (f := 97) rfl ?_); refine goesL_ (some 13) rfl rfl Try.func97 (by kernel_rfl) rfl #[.int .i64 (rd l0_2 x8_1), .int .i64 0, .int .i64 16] rfl qm ?_; (with_reducible refine (impl_within.calls (rd l0_2 x8_1) 0 16 true _ A7.out).mono ?_); rintro e w' ⟨rfl, ⟨nd, rfl⟩⟩; refine ⟨_, rfl, ?_⟩; have hcz12_0 : wr.cell? ⟨gb336, 0, none⟩ = some (.int .i64 a0_0) := (blk_cell BK336.out 0).trans rfl; have hcz12_1 : wr.cell? ⟨gb336, 1, none⟩ = some (.int .i64 a0_1) := (blk_cell BK336.out 1).trans rfl; have hcz12_2 : wr.cell? ⟨gb336, 2, none⟩ = some (.slice (some ad337) l0_2.length c0_2) := (blk_cell BK336.out 2).trans rfl; have hfz12_0 := blk_frozen BK336.out 0; have hfz12_1 := blk_frozen BK336.out 1; have hfz12_2 := blk_frozen BK336.out 2))
         go_roundg k1
         case measure => have := HK1.out; omega
         case rel => exact ⟨(wrap64 (x8_1 + 1)), qz, H', ⟨by have := HK1.out; omega⟩, ⟨qk BK336.out⟩, ⟨qb1 HB.out GE336.out⟩⟩
      ·replace c8 := Bool.eq_false_iff.mpr c8
       subst c8
       have H1 : (some false) = some r := by rw [if_neg (show ¬ (false = true) by decide)] at H; exact H
       clear H
       have H := H1
       clear H1
       obtain rfl := Option.some.inj H
       have p337 : 0 ≤ (x8_1 : Int) := qo
       have q337 : x8_1 < (l0_2.length : Int) := qo
       obtain ⟨ad337, e337, hx337_0⟩ := Kd.at_int HR0_2.out x8_1 p337 q337
       cases e337
       replace hx337_0 := qc HB.out hx337_0
       replace p337 := eq_true p337
       replace q337 := eq_true q337
       go_wp2_with (first | ((with_reducible refine gate_callee (f := 97) rfl ?_); refine goesL_ (some 13) rfl rfl Try.func97 (by kernel_rfl) rfl #[.int .i64 (rd l0_2 x8_1), .int .i64 0, .int .i64 16] rfl qm ?_; (with_reducible refine (impl_within.calls (rd l0_2 x8_1) 0 16 false _ A7.out).mono ?_); rintro e w' ⟨rfl, ⟨nd, rfl⟩⟩; refine ⟨_, rfl, ?_⟩))
       go_ret
       exact ⟨qe, qb1 HB.out GE336.out⟩
     ·rw [if_neg c6] at H
      exact absurd H (by simp)
    ·rw [if_neg c5] at H
     exact absurd H (by simp)
   ·rw [if_neg c4] at H
    have c4b0 : decide (x8_1 < (l0_2.length : Int)) = false := decide_eq_false c4
    clear c4
    replace H := Option.bind_eq_some_iff.mp H
    obtain ⟨t339, A130, H⟩ := H
    replace H : (if t339 = true then ((impl_within.f a0_1 0 200).bind fun t340 => (if t340 = true then (if (l0_2.length : Int) = 2 then (if a0_0 = 0 then (some (a0_1 == 0)) else (some true)) else (some false)) else (some false))) else (some false)) = some r := H
    have A13 := Aside0.mk A130
    clear A130
    by_cases c14 : t339 = true
    ·subst c14
     have H1 : ((impl_within.f a0_1 0 200).bind fun t340 => (if t340 = true then (if (l0_2.length : Int) = 2 then (if a0_0 = 0 then (some (a0_1 == 0)) else (some true)) else (some false)) else (some false))) = some r := by rw [if_pos rfl] at H; exact H
     clear H
     have H := H1
     clear H1
     replace H := Option.bind_eq_some_iff.mp H
     obtain ⟨t340, A150, H⟩ := H
     replace H : (if t340 = true then (if (l0_2.length : Int) = 2 then (if a0_0 = 0 then (some (a0_1 == 0)) else (some true)) else (some false)) else (some false)) = some r := H
     have A15 := Aside0.mk A150
     clear A150
     by_cases c16 : t340 = true
     ·subst c16
      have H1 : (if (l0_2.length : Int) = 2 then (if a0_0 = 0 then (some (a0_1 == 0)) else (some true)) else (some false)) = some r := by rw [if_pos rfl] at H; exact H
      clear H
      have H := H1
      clear H1
      by_cases c17 : (l0_2.length : Int) = 2
      ·rw [if_pos c17] at H
       have c17b0 : ((l0_2.length : Int) == 2) = true := beq_iff_eq.mpr c17
       have c17b1 : ((l0_2.length : Int) != 2) = false := bne_eq_false_iff_eq.mpr c17
       clear c17
       by_cases c18 : a0_0 = 0
       ·rw [if_pos c18] at H
        have c18b0 : (a0_0 == 0) = true := beq_iff_eq.mpr c18
        have c18b1 : (a0_0 != 0) = false := bne_eq_false_iff_eq.mpr c18
        clear c18
        obtain rfl := Option.some.inj H
        have hcz19_0 : wr.cell? ⟨gb336, 0, none⟩ = some (.int .i64 a0_0) := (blk_cell BK336.out 0).trans rfl
        have hcz19_1 : wr.cell? ⟨gb336, 1, none⟩ = some (.int .i64 a0_1) := (blk_cell BK336.out 1).trans rfl
        have hcz19_2 : wr.cell? ⟨gb336, 2, none⟩ = some (.slice A0_2 l0_2.length c0_2) := (blk_cell BK336.out 2).trans rfl
        have hfz19_0 := blk_frozen BK336.out 0
        have hfz19_1 := blk_frozen BK336.out 1
        have hfz19_2 := blk_frozen BK336.out 2
        go_wp2_with (first | ((with_reducible refine gate_callee (f := 97) rfl ?_); refine goesL_ (some 27) rfl rfl Try.func97 (by kernel_rfl) rfl #[.int .i64 a0_0, .int .i64 0, .int .i64 2] rfl qm ?_; (with_reducible refine (impl_within.calls a0_0 0 2 true _ A13.out).mono ?_); rintro e w' ⟨rfl, ⟨nd, rfl⟩⟩; refine ⟨_, rfl, ?_⟩) | (go_at_call 97; (with_reducible refine (impl_within.calls a0_1 0 200 true _ A15.out).mono ?_); rintro e w' ⟨rfl, ⟨nd, rfl⟩⟩))
        go_ret
        exact ⟨qe, qb1 HB.out GE336.out⟩
       ·rw [if_neg c18] at H
        have c18b0 : (a0_0 == 0) = false := beq_eq_false_iff_ne.mpr c18
        have c18b1 : (a0_0 != 0) = true := bne_iff_ne.mpr c18
        obtain rfl := Option.some.inj H
        have hcz20_0 : wr.cell? ⟨gb336, 0, none⟩ = some (.int .i64 a0_0) := (blk_cell BK336.out 0).trans rfl
        have hcz20_1 : wr.cell? ⟨gb336, 1, none⟩ = some (.int .i64 a0_1) := (blk_cell BK336.out 1).trans rfl
        have hcz20_2 : wr.cell? ⟨gb336, 2, none⟩ = some (.slice A0_2 l0_2.length c0_2) := (blk_cell BK336.out 2).trans rfl
        have hfz20_0 := blk_frozen BK336.out 0
        have hfz20_1 := blk_frozen BK336.out 1
        have hfz20_2 := blk_frozen BK336.out 2
        go_wp2_with (first | ((with_reducible refine gate_callee (f := 97) rfl ?_); refine goesL_ (some 27) rfl rfl Try.func97 (by kernel_rfl) rfl #[.int .i64 a0_0, .int .i64 0, .int .i64 2] rfl qm ?_; (with_reducible refine (impl_within.calls a0_0 0 2 true _ A13.out).mono ?_); rintro e w' ⟨rfl, ⟨nd, rfl⟩⟩; refine ⟨_, rfl, ?_⟩) | (go_at_call 97; (with_reducible refine (impl_within.calls a0_1 0 200 true _ A15.out).mono ?_); rintro e w' ⟨rfl, ⟨nd, rfl⟩⟩))
        go_ret
        exact ⟨qe, qb1 HB.out GE336.out⟩
      ·rw [if_neg c17] at H
       have c17b0 : ((l0_2.length : Int) == 2) = false := beq_eq_false_iff_ne.mpr c17
       have c17b1 : ((l0_2.length : Int) != 2) = true := bne_iff_ne.mpr c17
       obtain rfl := Option.some.inj H
       have hcz21_0 : wr.cell? ⟨gb336, 0, none⟩ = some (.int .i64 a0_0) := (blk_cell BK336.out 0).trans rfl
       have hcz21_1 : wr.cell? ⟨gb336, 1, none⟩ = some (.int .i64 a0_1) := (blk_cell BK336.out 1).trans rfl
       have hcz21_2 : wr.cell? ⟨gb336, 2, none⟩ = some (.slice A0_2 l0_2.length c0_2) := (blk_cell BK336.out 2).trans rfl
       have hfz21_0 := blk_frozen BK336.out 0
       have hfz21_1 := blk_frozen BK336.out 1
       have hfz21_2 := blk_frozen BK336.out 2
       go_wp2_with (first | ((with_reducible refine gate_callee (f := 97) rfl ?_); refine goesL_ (some 27) rfl rfl Try.func97 (by kernel_rfl) rfl #[.int .i64 a0_0, .int .i64 0, .int .i64 2] rfl qm ?_; (with_reducible refine (impl_within.calls a0_0 0 2 true _ A13.out).mono ?_); rintro e w' ⟨rfl, ⟨nd, rfl⟩⟩; refine ⟨_, rfl, ?_⟩) | (go_at_call 97; (with_reducible refine (impl_within.calls a0_1 0 200 true _ A15.out).mono ?_); rintro e w' ⟨rfl, ⟨nd, rfl⟩⟩))
       go_ret
       exact ⟨qe, qb1 HB.out GE336.out⟩
     ·replace c16 := Bool.eq_false_iff.mpr c16
      subst c16
      have H1 : (some false) = some r := by rw [if_neg (show ¬ (false = true) by decide)] at H; exact H
      clear H
      have H := H1
      clear H1
      obtain rfl := Option.some.inj H
      have hcz22_0 : wr.cell? ⟨gb336, 0, none⟩ = some (.int .i64 a0_0) := (blk_cell BK336.out 0).trans rfl
      have hcz22_1 : wr.cell? ⟨gb336, 1, none⟩ = some (.int .i64 a0_1) := (blk_cell BK336.out 1).trans rfl
      have hcz22_2 : wr.cell? ⟨gb336, 2, none⟩ = some (.slice A0_2 l0_2.length c0_2) := (blk_cell BK336.out 2).trans rfl
      have hfz22_0 := blk_frozen BK336.out 0
      have hfz22_1 := blk_frozen BK336.out 1
      have hfz22_2 := blk_frozen BK336.out 2
      go_wp2_with (first | ((with_reducible refine gate_callee (f := 97) rfl ?_); refine goesL_ (some 27) rfl rfl Try.func97 (by kernel_rfl) rfl #[.int .i64 a0_0, .int .i64 0, .int .i64 2] rfl qm ?_; (with_reducible refine (impl_within.calls a0_0 0 2 true _ A13.out).mono ?_); rintro e w' ⟨rfl, ⟨nd, rfl⟩⟩; refine ⟨_, rfl, ?_⟩) | (go_at_call 97; (with_reducible refine (impl_within.calls a0_1 0 200 false _ A15.out).mono ?_); rintro e w' ⟨rfl, ⟨nd, rfl⟩⟩))
      go_ret
      exact ⟨qe, qb1 HB.out GE336.out⟩
    ·replace c14 := Bool.eq_false_iff.mpr c14
     subst c14
     have H1 : (some false) = some r := by rw [if_neg (show ¬ (false = true) by decide)] at H; exact H
     clear H
     have H := H1
     clear H1
     obtain rfl := Option.some.inj H
     have hcz23_0 : wr.cell? ⟨gb336, 0, none⟩ = some (.int .i64 a0_0) := (blk_cell BK336.out 0).trans rfl
     have hcz23_1 : wr.cell? ⟨gb336, 1, none⟩ = some (.int .i64 a0_1) := (blk_cell BK336.out 1).trans rfl
     have hcz23_2 : wr.cell? ⟨gb336, 2, none⟩ = some (.slice A0_2 l0_2.length c0_2) := (blk_cell BK336.out 2).trans rfl
     have hfz23_0 := blk_frozen BK336.out 0
     have hfz23_1 := blk_frozen BK336.out 1
     have hfz23_2 := blk_frozen BK336.out 2
     go_wp2_with (first | ((with_reducible refine gate_callee (f := 97) rfl ?_); refine goesL_ (some 27) rfl rfl Try.func97 (by kernel_rfl) rfl #[.int .i64 a0_0, .int .i64 0, .int .i64 2] rfl qm ?_; (with_reducible refine (impl_within.calls a0_0 0 2 false _ A13.out).mono ?_); rintro e w' ⟨rfl, ⟨nd, rfl⟩⟩; refine ⟨_, rfl, ?_⟩))
     go_ret
     exact ⟨qe, qb1 HB.out GE336.out⟩

/-! ### impl_BitsOk: function 120 -/
def impl_BitsOk.f (l0_0 : List Bool) (l0_1 : List Bool) : Option (Bool) := if (l0_0.length : Int) = 16 then (some ((l0_1.length : Int) == 8)) else (some false)
set_option maxHeartbeats 8000000 in
set_option maxRecDepth 100000 in
theorem impl_BitsOk.calls (A0_0 : Option Addr) (c0_0 : Nat) (l0_0 : List Bool) (A0_1 : Option Addr) (c0_1 : Nat) (l0_1 : List Bool) (r : Bool) (w : World) (hr0_0 : Kd.C Kd.bool w A0_0 l0_0.length l0_0) (hc0_0 : l0_0.length ≤ c0_0) (hr0_1 : Kd.C Kd.bool w A0_1 l0_1.length l0_1) (hc0_1 : l0_1.length ≤ c0_1) (h : impl_BitsOk.f l0_0 l0_1 = some r) :
  Calls Try.prog 120 #[.agg #[.slice A0_0 l0_0.length c0_0, .slice A0_1 l0_1.length c0_1]] w fun e w' => e = .returned (.bool r) ∧ Below w.heap.size w w' := by
 have hu35 := Try.underlying35
 have HR0_0 := Aside0.mk hr0_0
 have HC0_0 := Aside0.mk hc0_0
 clear hr0_0 hc0_0
 have HR0_1 := Aside0.mk hr0_1
 have HC0_1 := Aside0.mk hc0_1
 clear hr0_1 hc0_1
 have HB := Aside0.mk (Below.refl w.heap.size w)
 have H : (if (l0_0.length : Int) = 16 then (some ((l0_1.length : Int) == 8)) else (some false)) = some r := h
 clear h
 by_cases c2 : (l0_0.length : Int) = 16
 ·rw [if_pos c2] at H
  have c2b0 : ((l0_0.length : Int) == 16) = true := beq_iff_eq.mpr c2
  have c2b1 : ((l0_0.length : Int) != 16) = false := bne_eq_false_iff_eq.mpr c2
  clear c2
  obtain rfl := Option.some.inj H
  go_enter Try.func120, Try.ntmps120
  go_wp2_with (first | ((with_reducible refine gate_dst (N := 1) rfl ?_); (try (refine gate_guard (by rfl) ?_; dsimp only)); refine box_event ?hg (N := 1) ?hd (cs := #[.slice A0_0 l0_0.length c0_0, .slice A0_1 l0_1.length c0_1]) (t := 35) ?hr ?_; (case hd => rfl); (case hg => rfl); (case hr => first | (go_simp; done) | (go_simp; rfl)); intro gb341 hg w3 hbox hb; have n0_ := Aside0.mk (below_step (qb HB.out) hb); have n1_ := Aside0.mk (hbox); have n2_ := Aside0.mk ((by rw [hg]; exact (below_size (qb HB.out)) : w.heap.size ≤ gb341)); have n3_ := Aside0.mk ((by rw [hg]; exact (below_size (qb HB.out)) : w.heap.size ≤ gb341)); clear HB; have HB := n0_; have BK341 := n1_; have GW341 := n2_; have GE341 := n3_; clear n0_ n1_ n2_ n3_; clear hb hbox hg; have hcz4_0 : w3.cell? ⟨gb341, 0, none⟩ = some (.slice A0_0 l0_0.length c0_0) := (blk_cell BK341.out 0).trans rfl; have hcz4_1 : w3.cell? ⟨gb341, 1, none⟩ = some (.slice A0_1 l0_1.length c0_1) := (blk_cell BK341.out 1).trans rfl; have hfz4_0 := blk_frozen BK341.out 0; have hfz4_1 := blk_frozen BK341.out 1))
  go_ret
  exact ⟨qe, qb1 HB.out GE341.out⟩
 ·rw [if_neg c2] at H
  have c2b0 : ((l0_0.length : Int) == 16) = false := beq_eq_false_iff_ne.mpr c2
  have c2b1 : ((l0_0.length : Int) != 16) = true := bne_iff_ne.mpr c2
  obtain rfl := Option.some.inj H
  go_enter Try.func120, Try.ntmps120
  go_wp2_with (first | ((with_reducible refine gate_dst (N := 1) rfl ?_); (try (refine gate_guard (by rfl) ?_; dsimp only)); refine box_event ?hg (N := 1) ?hd (cs := #[.slice A0_0 l0_0.length c0_0, .slice A0_1 l0_1.length c0_1]) (t := 35) ?hr ?_; (case hd => rfl); (case hg => rfl); (case hr => first | (go_simp; done) | (go_simp; rfl)); intro gb341 hg w5 hbox hb; have n0_ := Aside0.mk (below_step (qb HB.out) hb); have n1_ := Aside0.mk (hbox); have n2_ := Aside0.mk ((by rw [hg]; exact (below_size (qb HB.out)) : w.heap.size ≤ gb341)); have n3_ := Aside0.mk ((by rw [hg]; exact (below_size (qb HB.out)) : w.heap.size ≤ gb341)); clear HB; have HB := n0_; have BK341 := n1_; have GW341 := n2_; have GE341 := n3_; clear n0_ n1_ n2_ n3_; clear hb hbox hg; have hcz6_0 : w5.cell? ⟨gb341, 0, none⟩ = some (.slice A0_0 l0_0.length c0_0) := (blk_cell BK341.out 0).trans rfl; have hcz6_1 : w5.cell? ⟨gb341, 1, none⟩ = some (.slice A0_1 l0_1.length c0_1) := (blk_cell BK341.out 1).trans rfl; have hfz6_0 := blk_frozen BK341.out 0; have hfz6_1 := blk_frozen BK341.out 1))
  go_ret
  exact ⟨qe, qb1 HB.out GE341.out⟩

/-! ### impl_DiskOk: function 54 -/
mutual
def impl_DiskOk.l0 : Nat → List (S105) → Int → Int → List Bool → List Bool → List (S105) → List (S59) → Option (Bool)
 | 0, _, _, _, _, _, _, _ => none
 | k + 1, x8, x9, x10, x343000, x343001, x343002, x343003 => if x10 < x9 then (if 0 ≤ x10 then (if x10 < (x8.length : Int) then ((impl_InodeOk.f k ((rd_T105 x8 x10).f0) ((rd_T105 x8 x10).f1) ((rd_T105 x8 x10).f2)).bind fun t345 => (if t345 = true then (impl_DiskOk.l0 k x8 x9 (wrap64 (x10 + 1)) x343000 x343001 x343002 x343003) else (some false))) else (none)) else (none)) else (impl_DiskOk.l1 k x343003 (x343003.length : Int) 0 x343000 x343001 x343002 x343003)
def impl_DiskOk.l1 : Nat → List (S59) → Int → Int → List Bool → List Bool → List (S105) → List (S59) → Option (Bool)
 | 0, _, _, _, _, _, _, _ => none
 | k + 1, x19, x20, x21, x343000, x343001, x343002, x343003 => if x21 < x20 then (if 0 ≤ x21 then (if x21 < (x19.length : Int) then ((impl_BlockOk.f k ((rd_T59 x19 x21).f0) ((rd_T59 x19 x21).f1) ((rd_T59 x19 x21).f2)).bind fun t348 => (if t348 = true then (impl_DiskOk.l1 k x19 x20 (wrap64 (x21 + 1)) x343000 x343001 x343002 x343003) else (some false))) else (none)) else (none)) else ((impl_BitsOk.f x343000 x343001).bind fun t349 => (if t349 = true then (if (x343002.length : Int) = 8 then (some ((x343003.length : Int) == 16)) else (some false)) else (some false)))
end
def impl_DiskOk.f (k : Nat) (l0_0 : List Bool) (l0_1 : List Bool) (l0_2 : List (S105)) (l0_3 : List (S59)) : Option (Bool) := impl_DiskOk.l0 k l0_2 (l0_2.length : Int) 0 l0_0 l0_1 l0_2 l0_3
theorem impl_DiskOk.mono_l : ∀ k, (∀ y0 y1 y2 y3 y4 y5 y6, LeO (impl_DiskOk.l0 k y0 y1 y2 y3 y4 y5 y6) (impl_DiskOk.l0 (k + 1) y0 y1 y2 y3 y4 y5 y6)) ∧ (∀ y0 y1 y2 y3 y4 y5 y6, LeO (impl_DiskOk.l1 k y0 y1 y2 y3 y4 y5 y6) (impl_DiskOk.l1 (k + 1) y0 y1 y2 y3 y4 y5 y6))
 | 0 => ⟨fun _ _ _ _ _ _ _ r h => by simp [impl_DiskOk.l0] at h, fun _ _ _ _ _ _ _ r h => by simp [impl_DiskOk.l1] at h⟩
 | k + 1 => by
  obtain ⟨ih0, ih1⟩ := impl_DiskOk.mono_l k
  refine ⟨?_, ?_⟩
  ·intro y0 y1 y2 y3 y4 y5 y6
   unfold impl_DiskOk.l0
   repeat' first
   | (with_reducible exact ih0 _ _ _ _ _ _ _)
   | (with_reducible exact ih1 _ _ _ _ _ _ _)
   | (with_reducible exact impl_BlockOk.mono _ _ _ _)
   | (with_reducible exact impl_InodeOk.mono _ _ _ _)
   | with_reducible first | exact LeO.refl _ | exact LeO.none _ | refine LeO.ite ?_ ?_ | refine LeO.bind ?_ (fun _ => ?_)
   | exact ih0 _ _ _ _ _ _ _
   | exact ih1 _ _ _ _ _ _ _
   | exact impl_BlockOk.mono _ _ _ _
   | exact impl_InodeOk.mono _ _ _ _
   | exact LeO.none _
   | refine LeO.ite ?_ ?_
   | refine LeO.bind ?_ (fun _ => ?_)
  ·intro y0 y1 y2 y3 y4 y5 y6
   unfold impl_DiskOk.l1
   repeat' first
   | (with_reducible exact ih0 _ _ _ _ _ _ _)
   | (with_reducible exact ih1 _ _ _ _ _ _ _)
   | (with_reducible exact impl_BlockOk.mono _ _ _ _)
   | (with_reducible exact impl_InodeOk.mono _ _ _ _)
   | with_reducible first | exact LeO.refl _ | exact LeO.none _ | refine LeO.ite ?_ ?_ | refine LeO.bind ?_ (fun _ => ?_)
   | exact ih0 _ _ _ _ _ _ _
   | exact ih1 _ _ _ _ _ _ _
   | exact impl_BlockOk.mono _ _ _ _
   | exact impl_InodeOk.mono _ _ _ _
   | exact LeO.none _
   | refine LeO.ite ?_ ?_
   | refine LeO.bind ?_ (fun _ => ?_)
theorem impl_DiskOk.mono : ∀ a0 a1 a2 a3 k, LeO (impl_DiskOk.f k a0 a1 a2 a3) (impl_DiskOk.f (k + 1) a0 a1 a2 a3) := by
 intro a0 a1 a2 a3 k
 obtain ⟨ih0, ih1⟩ := impl_DiskOk.mono_l k
 unfold impl_DiskOk.f
 repeat' first
   | (with_reducible exact ih0 _ _ _ _ _ _ _)
   | (with_reducible exact ih1 _ _ _ _ _ _ _)
   | (with_reducible exact impl_BlockOk.mono _ _ _ _)
   | (with_reducible exact impl_InodeOk.mono _ _ _ _)
   | with_reducible first | exact LeO.refl _ | exact LeO.none _ | refine LeO.ite ?_ ?_ | refine LeO.bind ?_ (fun _ => ?_)
   | exact ih0 _ _ _ _ _ _ _
   | exact ih1 _ _ _ _ _ _ _
   | exact impl_BlockOk.mono _ _ _ _
   | exact impl_InodeOk.mono _ _ _ _
   | exact LeO.none _
   | refine LeO.ite ?_ ?_
   | refine LeO.bind ?_ (fun _ => ?_)
set_option maxHeartbeats 8000000 in
set_option maxRecDepth 100000 in
theorem impl_DiskOk.calls (k : Nat) (A0_0 : Option Addr) (c0_0 : Nat) (l0_0 : List Bool) (A0_1 : Option Addr) (c0_1 : Nat) (l0_1 : List Bool) (A0_2 : Option Addr) (c0_2 : Nat) (l0_2 : List (S105)) (A0_3 : Option Addr) (c0_3 : Nat) (l0_3 : List (S59)) (r : Bool) (w : World) (hr0_0 : Kd.C Kd.bool w A0_0 l0_0.length l0_0) (hc0_0 : l0_0.length ≤ c0_0) (hr0_1 : Kd.C Kd.bool w A0_1 l0_1.length l0_1) (hc0_1 : l0_1.length ≤ c0_1) (hr0_2 : Kd.C k105 w A0_2 l0_2.length l0_2) (hc0_2 : l0_2.length ≤ c0_2) (hr0_3 : Kd.C k59 w A0_3 l0_3.length l0_3) (hc0_3 : l0_3.length ≤ c0_3) (h : impl_DiskOk.f k l0_0 l0_1 l0_2 l0_3 = some r) :
  Calls Try.prog 54 #[.agg #[.slice A0_0 l0_0.length c0_0, .slice A0_1 l0_1.length c0_1, .slice A0_2 l0_2.length c0_2, .slice A0_3 l0_3.length c0_3]] w fun e w' => e = .returned (.bool r) ∧ Below w.heap.size w w' := by
 have hu39 := Try.underlying39
 have hu105 := Try.underlying105
 have hu59 := Try.underlying59
 have hu35 := Try.underlying35
 have HR0_0 := Aside0.mk hr0_0
 have HC0_0 := Aside0.mk hc0_0
 clear hr0_0 hc0_0
 have HR0_1 := Aside0.mk hr0_1
 have HC0_1 := Aside0.mk hc0_1
 clear hr0_1 hc0_1
 have HR0_2 := Aside0.mk hr0_2
 have HC0_2 := Aside0.mk hc0_2
 clear hr0_2 hc0_2
 have HR0_3 := Aside0.mk hr0_3
 have HC0_3 := Aside0.mk hc0_3
 clear hr0_3 hc0_3
 have HB := Aside0.mk (Below.refl w.heap.size w)
 have H : (impl_DiskOk.l0 k l0_2 (l0_2.length : Int) 0 l0_0 l0_1 l0_2 l0_3) = some r := h
 clear h
 have H' := Aside0.mk H
 clear H
 go_enter Try.func54, Try.ntmps54
 go_wp2_with (first | ((with_reducible refine gate_dst (N := 1) rfl ?_); (try (refine gate_guard (by rfl) ?_; dsimp only)); refine box_event ?hg (N := 1) ?hd (cs := #[.slice A0_0 l0_0.length c0_0, .slice A0_1 l0_1.length c0_1, .slice A0_2 l0_2.length c0_2, .slice A0_3 l0_3.length c0_3]) (t := 39) ?hr ?_; (case hd => rfl); (case hg => rfl); (case hr => first | (go_simp; done) | (go_simp; rfl)); intro gb342 hg w2 hbox hb; have n0_ := Aside0.mk (below_step (qb HB.out) hb); have n1_ := Aside0.mk (hbox); have n2_ := Aside0.mk ((by rw [hg]; exact (below_size (qb HB.out)) : w.heap.size ≤ gb342)); have n3_ := Aside0.mk ((by rw [hg]; exact (below_size (qb HB.out)) : w.heap.size ≤ gb342)); clear HB; have HB := n0_; have BK342 := n1_; have GW342 := n2_; have GE342 := n3_; clear n0_ n1_ n2_ n3_; clear hb hbox hg; have hcz3_0 : w2.cell? ⟨gb342, 0, none⟩ = some (.slice A0_0 l0_0.length c0_0) := (blk_cell BK342.out 0).trans rfl; have hcz3_1 : w2.cell? ⟨gb342, 1, none⟩ = some (.slice A0_1 l0_1.length c0_1) := (blk_cell BK342.out 1).trans rfl; have hcz3_2 : w2.cell? ⟨gb342, 2, none⟩ = some (.slice A0_2 l0_2.length c0_2) := (blk_cell BK342.out 2).trans rfl; have hcz3_3 : w2.cell? ⟨gb342, 3, none⟩ = some (.slice A0_3 l0_3.length c0_3) := (blk_cell BK342.out 3).trans rfl; have hfz3_0 := blk_frozen BK342.out 0; have hfz3_1 := blk_frozen BK342.out 1; have hfz3_2 := blk_frozen BK342.out 2; have hfz3_3 := blk_frozen BK342.out 3))
 go_loopg [10] k (fun kq v10 w' => ∃ (x10_1 : Int), v10 = .int .i64 x10_1 ∧ Aside0 (impl_DiskOk.l0 kq l0_2 (l0_2.length : Int) x10_1 l0_0 l0_1 l0_2 l0_3 = some r) ∧ Aside0 (kq ≤ k) ∧ Aside0 (w'.heap[gb342]? = some (.cells #[(.slice A0_0 l0_0.length c0_0), (.slice A0_1 l0_1.length c0_1), (.slice A0_2 l0_2.length c0_2), (.slice A0_3 l0_3.length c0_3)] 39 (0, 0))) ∧ Aside0 (Below w.heap.size w w'))
 case atStart => exact ⟨(0), qz, H', ⟨Nat.le_refl _⟩, ⟨qk BK342.out⟩, ⟨qb1 HB.out GE342.out⟩⟩
 case round =>
  clear H'
  try clear p2
  try clear hcz3_0
  try clear hcz3_1
  try clear hcz3_2
  try clear hcz3_3
  try clear hfz3_0
  try clear hfz3_1
  try clear hfz3_2
  try clear hfz3_3
  obtain ⟨x10_1, rfl, HA, HK1, BK342, HB⟩ := hrel
  cases gk with
  | zero => exact absurd HA.out (by simp [impl_DiskOk.l0])
  | succ k1 =>
   have H := HA.out
   clear HA
   simp only [impl_DiskOk.l0] at H
   by_cases c4 : x10_1 < (l0_2.length : Int)
   ·rw [if_pos c4] at H
    have c4b0 : decide (x10_1 < (l0_2.length : Int)) = true := decide_eq_true c4
    clear c4
    by_cases c5 : 0 ≤ x10_1
    ·rw [if_pos c5] at H
     have c5b0 : decide (0 ≤ x10_1) = true := decide_eq_true c5
     clear c5
     by_cases c6 : x10_1 < (l0_2.length : Int)
     ·rw [if_pos c6] at H
      have c6b0 : decide (x10_1 < (l0_2.length : Int)) = true := decide_eq_true c6
      clear c6
      replace H := Option.bind_eq_some_iff.mp H
      obtain ⟨t345, A70, H⟩ := H
      replace H : (if t345 = true then (impl_DiskOk.l0 k1 l0_2 (l0_2.length : Int) (wrap64 (x10_1 + 1)) l0_0 l0_1 l0_2 l0_3) else (some false)) = some r := H
      have A7 := Aside0.mk A70
      clear A70
      by_cases c8 : t345 = true
      ·subst c8
       have H1 : (impl_DiskOk.l0 k1 l0_2 (l0_2.length : Int) (wrap64 (x10_1 + 1)) l0_0 l0_1 l0_2 l0_3) = some r := by rw [if_pos rfl] at H; exact H
       clear H
       have H := H1
       clear H1
       have H' := Aside0.mk H
       clear H
       have p343 : 0 ≤ (x10_1 : Int) := qo
       have q343 : x10_1 < (l0_2.length : Int) := qo
       obtain ⟨ad343, A343_2, c343_2, e343, hx343_0, hx343_1, hx343_2, hl343_2, hi343_2⟩ := at_T105 HR0_2.out x10_1 p343 q343
       cases e343
       replace hx343_0 := qc HB.out hx343_0
       replace hx343_1 := qc HB.out hx343_1
       replace hx343_2 := qc HB.out hx343_2
       have HR343_2 := Aside0.mk hi343_2
       have HC343_2 := Aside0.mk hl343_2
       clear hi343_2 hl343_2
       replace p343 := eq_true p343
       replace q343 := eq_true q343
       go_wp2_with (first | ((with_reducible refine gate_dst (N := 4) rfl ?_); (try (refine gate_guard (by rfl) ?_; dsimp only)); refine box_event ?hg (N := 4) ?hd (cs := #[.int .i64 0, .int .i64 0, .slice none 0 0]) (t := 105) ?hr ?_; (case hd => rfl); (case hg => rfl); (case hr => first | (go_simp; done) | (go_simp; rfl)); intro gb344 hg w9 hbox hb; have n0_ := Aside0.mk (blk_below (g := gb342) (o := .cells #[.slice A0_0 l0_0.length c0_0, .slice A0_1 l0_1.length c0_1, .slice (some ad343) l0_2.length c0_2, .slice A0_3 l0_3.length c0_3] 39 (0, 0)) (qk BK342.out) hb); have n1_ := Aside0.mk (below_step (qb1 HB.out GE342.out) hb); have n2_ := Aside0.mk (hbox); have n3_ := Aside0.mk ((by rw [hg]; exact (below_size (qb1 HB.out GE342.out)) : w.heap.size ≤ gb344)); have n4_ := Aside0.mk ((by rw [hg]; exact (below_size (qb1 HB.out GE342.out)) : w.heap.size ≤ gb344)); have n5_ := Aside0.mk ((by rw [hg]; exact Nat.ne_of_lt (blk_lt (g := gb342) (o := .cells #[.slice A0_0 l0_0.length c0_0, .slice A0_1 l0_1.length c0_1, .slice (some ad343) l0_2.length c0_2, .slice A0_3 l0_3.length c0_3] 39 (0, 0)) (qk BK342.out)) : gb342 ≠ gb344)); have n6_ := Aside0.mk ((by rw [hg]; exact Nat.ne_of_gt (blk_lt (g := gb342) (o := .cells #[.slice A0_0 l0_0.length c0_0, .slice A0_1 l0_1.length c0_1, .slice (some ad343) l0_2.length c0_2, .slice A0_3 l0_3.length c0_3] 39 (0, 0)) (qk BK342.out)) : gb344 ≠ gb342)); clear BK342; clear HB; have BK342 := n0_; have HB := n1_; have BK344 := n2_; have GW344 := n3_; have GE344 := n4_; have NB342_344 := n5_; have NB344_342 := n6_; clear n0_ n1_ n2_ n3_ n4_ n5_ n6_; clear hb hbox hg; have hnb10 := NB344_342.out; have hnc10 := NB342_344.out; have hcz11_0 : w9.cell? ⟨gb344, 0, none⟩ = some (.int .i64 0) := (blk_cell BK344.out 0).trans rfl; have hcz11_1 : w9.cell? ⟨gb344, 1, none⟩ = some (.int .i64 0) := (blk_cell BK344.out 1).trans rfl; have hcz11_2 : w9.cell? ⟨gb344, 2, none⟩ = some (.slice none 0 0) := (blk_cell BK344.out 2).trans rfl; have hfz11_0 := blk_frozen BK344.out 0; have hfz11_1 := blk_frozen BK344.out 1; have hfz11_2 := blk_frozen BK344.out 2) | ((with_reducible refine gate_callee (f := 119) rfl ?_); refine goesL_ (some 15) rfl rfl Try.func119 (by kernel_rfl) rfl #[.agg #[.int .i64 ((rd_T105 l0_2 x10_1).f0), .int .i64 ((rd_T105 l0_2 x10_1).f1), .slice A343_2 ((rd_T105 l0_2 x10_1).f2).length c343_2]] rfl qm ?_; (with_reducible refine (impl_InodeOk.calls k1 ((rd_T105 l0_2 x10_1).f0) ((rd_T105 l0_2 x10_1).f1) _ _ ((rd_T105 l0_2 x10_1).f2) true _ ?side1 ?side2 A7.out).mono ?_); (case side1 => exact Kd.C_below HR343_2.out (qb2 HB.out GE342.out GE344.out)); (case side2 => exact HC343_2.out); rintro e w12 ⟨rfl, hb⟩; refine ⟨_, rfl, ?_⟩; have n0_ := Aside0.mk (blk_below (g := gb342) (o := .cells #[.slice A0_0 l0_0.length c0_0, .slice A0_1 l0_1.length c0_1, .slice (some ad343) l0_2.length c0_2, .slice A0_3 l0_3.length c0_3] 39 (0, 0)) (by refine qK ?_; refine blk_far ?_ NB342_344.out _; refine qK ?_; refine blk_far ?_ NB342_344.out _; refine qK ?_; refine blk_far ?_ NB342_344.out _; refine qK ?_; exact BK342.out) hb); have n1_ := Aside0.mk (blk_below (g := gb344) (o := .cells #[.int .i64 ((rd_T105 l0_2 x10_1).f0), .int .i64 ((rd_T105 l0_2 x10_1).f1), .slice A343_2 ((rd_T105 l0_2 x10_1).f2).length c343_2] 105 (0, 0)) (by refine qK ?_; refine blk_put (cs := #[.int .i64 ((rd_T105 l0_2 x10_1).f0), .int .i64 ((rd_T105 l0_2 x10_1).f1), .slice none 0 0]) ?_ 2 _ rfl; refine qK ?_; refine blk_put (cs := #[.int .i64 ((rd_T105 l0_2 x10_1).f0), .int .i64 0, .slice none 0 0]) ?_ 1 _ rfl; refine qK ?_; refine blk_put (cs := #[.int .i64 0, .int .i64 0, .slice none 0 0]) ?_ 0 _ rfl; refine qK ?_; exact BK344.out) hb); have n2_ := Aside0.mk (below_step (qb2 HB.out GE342.out GE344.out) hb); clear BK342; clear BK344; clear HB; have BK342 := n0_; have BK344 := n1_; have HB := n2_; clear n0_ n1_ n2_; (try clear hb); (try clear hb2); (try clear hk); (try clear hi)))
       go_roundg k1
       case measure => have := HK1.out; omega
       case rel => exact ⟨(wrap64 (x10_1 + 1)), qz, H', ⟨by have := HK1.out; omega⟩, ⟨qk BK342.out⟩, ⟨qb2 HB.out GE342.out GE344.out⟩⟩
      ·replace c8 := Bool.eq_false_iff.mpr c8
       subst c8
       have H1 : (some false) = some r := by rw [if_neg (show ¬ (false = true) by decide)] at H; exact H
       clear H
       have H := H1
       clear H1
       obtain rfl := Option.some.inj H
       have p343 : 0 ≤ (x10_1 : Int) := qo
       have q343 : x10_1 < (l0_2.length : Int) := qo
       obtain ⟨ad343, A343_2, c343_2, e343, hx343_0, hx343_1, hx343_2, hl343_2, hi343_2⟩ := at_T105 HR0_2.out x10_1 p343 q343
       cases e343
       replace hx343_0 := qc HB.out hx343_0
       replace hx343_1 := qc HB.out hx343_1
       replace hx343_2 := qc HB.out hx343_2
       have HR343_2 := Aside0.mk hi343_2
       have HC343_2 := Aside0.mk hl343_2
       clear hi343_2 hl343_2
       replace p343 := eq_true p343
       replace q343 := eq_true q343
       go_wp2_with (first | ((with_reducible refine gate_dst (N := 4) rfl ?_); (try (refine gate_guard (by rfl) ?_; dsimp only)); refine box_event ?hg (N := 4) ?hd (cs := #[.int .i64 0, .int .i64 0, .slice none 0 0]) (t := 105) ?hr ?_; (case hd => rfl); (case hg => rfl); (case hr => first | (go_simp; done) | (go_simp; rfl)); intro gb344 hg w13 hbox hb; have n0_ := Aside0.mk (blk_below (g := gb342) (o := .cells #[.slice A0_0 l0_0.length c0_0, .slice A0_1 l0_1.length c0_1, .slice (some ad343) l0_2.length c0_2, .slice A0_3 l0_3.length c0_3] 39 (0, 0)) (qk BK342.out) hb); have n1_ := Aside0.mk (below_step (qb1 HB.out GE342.out) hb); have n2_ := Aside0.mk (hbox); have n3_ := Aside0.mk ((by rw [hg]; exact (below_size (qb1 HB.out GE342.out)) : w.heap.size ≤ gb344)); have n4_ := Aside0.mk ((by rw [hg]; exact (below_size (qb1 HB.out GE342.out)) : w.heap.size ≤ gb344)); have n5_ := Aside0.mk ((by rw [hg]; exact Nat.ne_of_lt (blk_lt (g := gb342) (o := .cells #[.slice A0_0 l0_0.length c0_0, .slice A0_1 l0_1.length c0_1, .slice (some ad343) l0_2.length c0_2, .slice A0_3 l0_3.length c0_3] 39 (0, 0)) (qk BK342.out)) : gb342 ≠ gb344)); have n6_ := Aside0.mk ((by rw [hg]; exact Nat.ne_of_gt (blk_lt (g := gb342) (o := .cells #[.slice A0_0 l0_0.length c0_0, .slice A0_1 l0_1.length c0_1, .slice (some ad343) l0_2.length c0_2, .slice A0_3 l0_3.length c0_3] 39 (0, 0)) (qk BK342.out)) : gb344 ≠ gb342)); clear BK342; clear HB; have BK342 := n0_; have HB := n1_; have BK344 := n2_; have GW344 := n3_; have GE344 := n4_; have NB342_344 := n5_; have NB344_342 := n6_; clear n0_ n1_ n2_ n3_ n4_ n5_ n6_; clear hb hbox hg; have hnb14 := NB344_342.out; have hnc14 := NB342_344.out; have hcz15_0 : w13.cell? ⟨gb344, 0, none⟩ = some (.int .i64 0) := (blk_cell BK344.out 0).trans rfl; have hcz15_1 : w13.cell? ⟨gb344, 1, none⟩ = some (.int .i64 0) := (blk_cell BK344.out 1).trans rfl; have hcz15_2 : w13.cell? ⟨gb344, 2, none⟩ = some (.slice none 0 0) := (blk_cell BK344.out 2).trans rfl; have hfz15_0 := blk_frozen BK344.out 0; have hfz15_1 := blk_frozen BK344.out 1; have hfz15_2 := blk_frozen BK344.out 2) | ((with_reducible refine gate_callee (f := 119) rfl ?_); refine goesL_ (some 15) rfl rfl Try.func119 (by kernel_rfl) rfl #[.agg #[.int .i64 ((rd_T105 l0_2 x10_1).f0), .int .i64 ((rd_T105 l0_2 x10_1).f1), .slice A343_2 ((rd_T105 l0_2 x10_1).f2).length c343_2]] rfl qm ?_; (with_reducible refine (impl_InodeOk.calls k1 ((rd_T105 l0_2 x10_1).f0) ((rd_T105 l0_2 x10_1).f1) _ _ ((rd_T105 l0_2 x10_1).f2) false _ ?side1 ?side2 A7.out).mono ?_); (case side1 => exact Kd.C_below HR343_2.out (qb2 HB.out GE342.out GE344.out)); (case side2 => exact HC343_2.out); rintro e w16 ⟨rfl, hb⟩; refine ⟨_, rfl, ?_⟩; have n0_ := Aside0.mk (blk_below (g := gb342) (o := .cells #[.slice A0_0 l0_0.length c0_0, .slice A0_1 l0_1.length c0_1, .slice (some ad343) l0_2.length c0_2, .slice A0_3 l0_3.length c0_3] 39 (0, 0)) (by refine qK ?_; refine blk_far ?_ NB342_344.out _; refine qK ?_; refine blk_far ?_ NB342_344.out _; refine qK ?_; refine blk_far ?_ NB342_344.out _; refine qK ?_; exact BK342.out) hb); have n1_ := Aside0.mk (blk_below (g := gb344) (o := .cells #[.int .i64 ((rd_T105 l0_2 x10_1).f0), .int .i64 ((rd_T105 l0_2 x10_1).f1), .slice A343_2 ((rd_T105 l0_2 x10_1).f2).length c343_2] 105 (0, 0)) (by refine qK ?_; refine blk_put (cs := #[.int .i64 ((rd_T105 l0_2 x10_1).f0), .int .i64 ((rd_T105 l0_2 x10_1).f1), .slice none 0 0]) ?_ 2 _ rfl; refine qK ?_; refine blk_put (cs := #[.int .i64 ((rd_T105 l0_2 x10_1).f0), .int .i64 0, .slice none 0 0]) ?_ 1 _ rfl; refine qK ?_; refine blk_put (cs := #[.int .i64 0, .int .i64 0, .slice none 0 0]) ?_ 0 _ rfl; refine qK ?_; exact BK344.out) hb); have n2_ := Aside0.mk (below_step (qb2 HB.out GE342.out GE344.out) hb); clear BK342; clear BK344; clear HB; have BK342 := n0_; have BK344 := n1_; have HB := n2_; clear n0_ n1_ n2_; (try clear hb); (try clear hb2); (try clear hk); (try clear hi)))
       go_ret
       exact ⟨qe, qb2 HB.out GE342.out GE344.out⟩
     ·rw [if_neg c6] at H
      exact absurd H (by simp)
    ·rw [if_neg c5] at H
     exact absurd H (by simp)
   ·rw [if_neg c4] at H
    have c4b0 : decide (x10_1 < (l0_2.length : Int)) = false := decide_eq_false c4
    clear c4
    have H' := Aside0.mk H
    clear H
    have hcz17_0 : wr.cell? ⟨gb342, 0, none⟩ = some (.slice A0_0 l0_0.length c0_0) := (blk_cell BK342.out 0).trans rfl
    have hcz17_1 : wr.cell? ⟨gb342, 1, none⟩ = some (.slice A0_1 l0_1.length c0_1) := (blk_cell BK342.out 1).trans rfl
    have hcz17_2 : wr.cell? ⟨gb342, 2, none⟩ = some (.slice A0_2 l0_2.length c0_2) := (blk_cell BK342.out 2).trans rfl
    have hcz17_3 : wr.cell? ⟨gb342, 3, none⟩ = some (.slice A0_3 l0_3.length c0_3) := (blk_cell BK342.out 3).trans rfl
    have hfz17_0 := blk_frozen BK342.out 0
    have hfz17_1 := blk_frozen BK342.out 1
    have hfz17_2 := blk_frozen BK342.out 2
    have hfz17_3 := blk_frozen BK342.out 3
    go_wp2
    go_loopg [21] k1 (fun kq v21 w' => ∃ (x21_2 : Int), v21 = .int .i64 x21_2 ∧ Aside0 (impl_DiskOk.l1 kq l0_3 (l0_3.length : Int) x21_2 l0_0 l0_1 l0_2 l0_3 = some r) ∧ Aside0 (kq ≤ k1) ∧ Aside0 (w'.heap[gb342]? = some (.cells #[(.slice A0_0 l0_0.length c0_0), (.slice A0_1 l0_1.length c0_1), (.slice A0_2 l0_2.length c0_2), (.slice A0_3 l0_3.length c0_3)] 39 (0, 0))) ∧ Aside0 (Below w.heap.size w w'))
    case atStart => exact ⟨(0), qz, H', ⟨Nat.le_refl _⟩, ⟨qk BK342.out⟩, ⟨qb1 HB.out GE342.out⟩⟩
    case round =>
     clear H'
     try clear c1
     try clear p2
     try clear c3
     try clear p3
     try clear q3
     try clear hx3
     try clear c4
     try clear c4b0
     try clear c5
     try clear c5b0
     try clear c6
     try clear c6b0
     try clear p6
     try clear c8
     try clear c10
     try clear c11
     try clear c14
     try clear hcz11_0
     try clear hcz11_1
     try clear hcz11_2
     try clear hcz15_0
     try clear hcz15_1
     try clear hcz15_2
     try clear hcz17_0
     try clear hcz17_1
     try clear hcz17_2
     try clear hcz17_3
     try clear hcz3_0
     try clear hcz3_1
     try clear hcz3_2
     try clear hcz3_3
     try clear hfz11_0
     try clear hfz11_1
     try clear hfz11_2
     try clear hfz15_0
     try clear hfz15_1
     try clear hfz15_2
     try clear hfz17_0
     try clear hfz17_1
     try clear hfz17_2
     try clear hfz17_3
     try clear hfz3_0
     try clear hfz3_1
     try clear hfz3_2
     try clear hfz3_3
     try clear hx343_0
     try clear hx343_1
     try clear hx343_2
     try clear p2
     try clear p343
     try clear q343
     obtain ⟨x21_2, rfl, HA, HK2, BK342, HB⟩ := hrel
     cases gk with
     | zero => exact absurd HA.out (by simp [impl_DiskOk.l1])
     | succ k2 =>
      have H := HA.out
      clear HA
      simp only [impl_DiskOk.l1] at H
      by_cases c18 : x21_2 < (l0_3.length : Int)
      ·rw [if_pos c18] at H
       have c18b0 : decide (x21_2 < (l0_3.length : Int)) = true := decide_eq_true c18
       clear c18
       by_cases c19 : 0 ≤ x21_2
       ·rw [if_pos c19] at H
        have c19b0 : decide (0 ≤ x21_2) = true := decide_eq_true c19
        clear c19
        by_cases c20 : x21_2 < (l0_3.length : Int)
        ·rw [if_pos c20] at H
         have c20b0 : decide (x21_2 < (l0_3.length : Int)) = true := decide_eq_true c20
         clear c20
         replace H := Option.bind_eq_some_iff.mp H
         obtain ⟨t348, A210, H⟩ := H
         replace H : (if t348 = true then (impl_DiskOk.l1 k2 l0_3 (l0_3.length : Int) (wrap64 (x21_2 + 1)) l0_0 l0_1 l0_2 l0_3) else (some false)) = some r := H
         have A21 := Aside0.mk A210
         clear A210
         by_cases c22 : t348 = true
         ·subst c22
          have H1 : (impl_DiskOk.l1 k2 l0_3 (l0_3.length : Int) (wrap64 (x21_2 + 1)) l0_0 l0_1 l0_2 l0_3) = some r := by rw [if_pos rfl] at H; exact H
          clear H
          have H := H1
          clear H1
          have H' := Aside0.mk H
          clear H
          have p346 : 0 ≤ (x21_2 : Int) := qo
          have q346 : x21_2 < (l0_3.length : Int) := qo
          obtain ⟨ad346, A346_1, c346_1, e346, hx346_0, hx346_1, hx346_2, hl346_1, hi346_1⟩ := at_T59 HR0_3.out x21_2 p346 q346
          cases e346
          replace hx346_0 := qc HB.out hx346_0
          replace hx346_1 := qc HB.out hx346_1
          replace hx346_2 := qc HB.out hx346_2
          have HR346_1 := Aside0.mk hi346_1
          have HC346_1 := Aside0.mk hl346_1
          clear hi346_1 hl346_1
          replace p346 := eq_true p346
          replace q346 := eq_true q346
          go_wp2_with (first | ((with_reducible refine gate_dst (N := 6) rfl ?_); (try (refine gate_guard (by rfl) ?_; dsimp only)); refine box_event ?hg (N := 6) ?hd (cs := #[.bool false, .slice none 0 0, .string (⟨#[]⟩ : ByteArray)]) (t := 59) ?hr ?_; (case hd => rfl); (case hg => rfl); (case hr => first | (go_simp; done) | (go_simp; rfl)); intro gb347 hg w23 hbox hb; have n0_ := Aside0.mk (blk_below (g := gb342) (o := .cells #[.slice A0_0 l0_0.length c0_0, .slice A0_1 l0_1.length c0_1, .slice A0_2 l0_2.length c0_2, .slice (some ad346) l0_3.length c0_3] 39 (0, 0)) (qk BK342.out) hb); have n1_ := Aside0.mk (below_step (qb1 HB.out GE342.out) hb); have n2_ := Aside0.mk (hbox); have n3_ := Aside0.mk ((by rw [hg]; exact (below_size (qb1 HB.out GE342.out)) : w.heap.size ≤ gb347)); have n4_ := Aside0.mk ((by rw [hg]; exact (below_size (qb1 HB.out GE342.out)) : w.heap.size ≤ gb347)); have n5_ := Aside0.mk ((by rw [hg]; exact Nat.ne_of_lt (blk_lt (g := gb342) (o := .cells #[.slice A0_0 l0_0.length c0_0, .slice A0_1 l0_1.length c0_1, .slice A0_2 l0_2.length c0_2, .slice (some ad346) l0_3.length c0_3] 39 (0, 0)) (qk BK342.out)) : gb342 ≠ gb347)); have n6_ := Aside0.mk ((by rw [hg]; exact Nat.ne_of_gt (blk_lt (g := gb342) (o := .cells #[.slice A0_0 l0_0.length c0_0, .slice A0_1 l0_1.length c0_1, .slice A0_2 l0_2.length c0_2, .slice (some ad346) l0_3.length c0_3] 39 (0, 0)) (qk BK342.out)) : gb347 ≠ gb342)); clear BK342; clear HB; have BK342 := n0_; have HB := n1_; have BK347 := n2_; have GW347 := n3_; have GE347 := n4_; have NB342_347 := n5_; have NB347_342 := n6_; clear n0_ n1_ n2_ n3_ n4_ n5_ n6_; clear hb hbox hg; have hnb24 := NB347_342.out; have hnc24 := NB342_347.out; have hcz25_0 : w23.cell? ⟨gb347, 0, none⟩ = some (.bool false) := (blk_cell BK347.out 0).trans rfl; have hcz25_1 : w23.cell? ⟨gb347, 1, none⟩ = some (.slice none 0 0) := (blk_cell BK347.out 1).trans rfl; have hcz25_2 : w23.cell? ⟨gb347, 2, none⟩ = some (.string (⟨#[]⟩ : ByteArray)) := (blk_cell BK347.out 2).trans rfl; have hfz25_0 := blk_frozen BK347.out 0; have hfz25_1 := blk_frozen BK347.out 1; have hfz25_2 := blk_frozen BK347.out 2) | ((with_reducible refine gate_callee (f := 34) rfl ?_); refine goesL_ (some 26) rfl rfl Try.func34 (by kernel_rfl) rfl #[.agg #[.bool ((rd_T59 l0_3 x21_2).f0), .slice A346_1 ((rd_T59 l0_3 x21_2).f1).length c346_1, .string ((rd_T59 l0_3 x21_2).f2)]] rfl qm ?_; (with_reducible refine (impl_BlockOk.calls k2 ((rd_T59 l0_3 x21_2).f0) _ _ ((rd_T59 l0_3 x21_2).f1) ((rd_T59 l0_3 x21_2).f2) true _ ?side1 ?side2 A21.out).mono ?_); (case side1 => exact Kd.C_below HR346_1.out (qb2 HB.out GE342.out GE347.out)); (case side2 => exact HC346_1.out); rintro e w26 ⟨rfl, hb⟩; refine ⟨_, rfl, ?_⟩; have n0_ := Aside0.mk (blk_below (g := gb342) (o := .cells #[.slice A0_0 l0_0.length c0_0, .slice A0_1 l0_1.length c0_1, .slice A0_2 l0_2.length c0_2, .slice (some ad346) l0_3.length c0_3] 39 (0, 0)) (by refine qK ?_; refine blk_far ?_ NB342_347.out _; refine qK ?_; refine blk_far ?_ NB342_347.out _; refine qK ?_; refine blk_far ?_ NB342_347.out _; refine qK ?_; exact BK342.out) hb); have n1_ := Aside0.mk (blk_below (g := gb347) (o := .cells #[.bool ((rd_T59 l0_3 x21_2).f0), .slice A346_1 ((rd_T59 l0_3 x21_2).f1).length c346_1, .string ((rd_T59 l0_3 x21_2).f2)] 59 (0, 0)) (by refine qK ?_; refine blk_put (cs := #[.bool ((rd_T59 l0_3 x21_2).f0), .slice A346_1 ((rd_T59 l0_3 x21_2).f1).length c346_1, .string (⟨#[]⟩ : ByteArray)]) ?_ 2 _ rfl; refine qK ?_; refine blk_put (cs := #[.bool ((rd_T59 l0_3 x21_2).f0), .slice none 0 0, .string (⟨#[]⟩ : ByteArray)]) ?_ 1 _ rfl; refine qK ?_; refine blk_put (cs := #[.bool false, .slice none 0 0, .string (⟨#[]⟩ : ByteArray)]) ?_ 0 _ rfl; refine qK ?_; exact BK347.out) hb); have n2_ := Aside0.mk (below_step (qb2 HB.out GE342.out GE347.out) hb); clear BK342; clear BK347; clear HB; have BK342 := n0_; have BK347 := n1_; have HB := n2_; clear n0_ n1_ n2_; (try clear hb); (try clear hb2); (try clear hk); (try clear hi)))
          go_roundg k2
          case measure => have := HK1.out; have := HK2.out; omega
          case rel => exact ⟨(wrap64 (x21_2 + 1)), qz, H', ⟨by have := HK1.out; have := HK2.out; omega⟩, ⟨qk BK342.out⟩, ⟨qb2 HB.out GE342.out GE347.out⟩⟩
         ·replace c22 := Bool.eq_false_iff.mpr c22
          subst c22
          have H1 : (some false) = some r := by rw [if_neg (show ¬ (false = true) by decide)] at H; exact H
          clear H
          have H := H1
          clear H1
          obtain rfl := Option.some.inj H
          have p346 : 0 ≤ (x21_2 : Int) := qo
          have q346 : x21_2 < (l0_3.length : Int) := qo
          obtain ⟨ad346, A346_1, c346_1, e346, hx346_0, hx346_1, hx346_2, hl346_1, hi346_1⟩ := at_T59 HR0_3.out x21_2 p346 q346
          cases e346
          replace hx346_0 := qc HB.out hx346_0
          replace hx346_1 := qc HB.out hx346_1
          replace hx346_2 := qc HB.out hx346_2
          have HR346_1 := Aside0.mk hi346_1
          have HC346_1 := Aside0.mk hl346_1
          clear hi346_1 hl346_1
          replace p346 := eq_true p346
          replace q346 := eq_true q346
          go_wp2_with (first | ((with_reducible refine gate_dst (N := 6) rfl ?_); (try (refine gate_guard (by rfl) ?_; dsimp only)); refine box_event ?hg (N := 6) ?hd (cs := #[.bool false, .slice none 0 0, .string (⟨#[]⟩ : ByteArray)]) (t := 59) ?hr ?_; (case hd => rfl); (case hg => rfl); (case hr => first | (go_simp; done) | (go_simp; rfl)); intro gb347 hg w27 hbox hb; have n0_ := Aside0.mk (blk_below (g := gb342) (o := .cells #[.slice A0_0 l0_0.length c0_0, .slice A0_1 l0_1.length c0_1, .slice A0_2 l0_2.length c0_2, .slice (some ad346) l0_3.length c0_3] 39 (0, 0)) (qk BK342.out) hb); have n1_ := Aside0.mk (below_step (qb1 HB.out GE342.out) hb); have n2_ := Aside0.mk (hbox); have n3_ := Aside0.mk ((by rw [hg]; exact (below_size (qb1 HB.out GE342.out)) : w.heap.size ≤ gb347)); have n4_ := Aside0.mk ((by rw [hg]; exact (below_size (qb1 HB.out GE342.out)) : w.heap.size ≤ gb347)); have n5_ := Aside0.mk ((by rw [hg]; exact Nat.ne_of_lt (blk_lt (g := gb342) (o := .cells #[.slice A0_0 l0_0.length c0_0, .slice A0_1 l0_1.length c0_1, .slice A0_2 l0_2.length c0_2, .slice (some ad346) l0_3.length c0_3] 39 (0, 0)) (qk BK342.out)) : gb342 ≠ gb347)); have n6_ := Aside0.mk ((by rw [hg]; exact Nat.ne_of_gt (blk_lt (g := gb342) (o := .cells #[.slice A0_0 l0_0.length c0_0, .slice A0_1 l0_1.length c0_1, .slice A0_2 l0_2.length c0_2, .slice (some ad346) l0_3.length c0_3] 39 (0, 0)) (qk BK342.out)) : gb347 ≠ gb342)); clear BK342; clear HB; have BK342 := n0_; have HB := n1_; have BK347 := n2_; have GW347 := n3_; have GE347 := n4_; have NB342_347 := n5_; have NB347_342 := n6_; clear n0_ n1_ n2_ n3_ n4_ n5_ n6_; clear hb hbox hg; have hnb28 := NB347_342.out; have hnc28 := NB342_347.out; have hcz29_0 : w27.cell? ⟨gb347, 0, none⟩ = some (.bool false) := (blk_cell BK347.out 0).trans rfl; have hcz29_1 : w27.cell? ⟨gb347, 1, none⟩ = some (.slice none 0 0) := (blk_cell BK347.out 1).trans rfl; have hcz29_2 : w27.cell? ⟨gb347, 2, none⟩ = some (.string (⟨#[]⟩ : ByteArray)) := (blk_cell BK347.out 2).trans rfl; have hfz29_0 := blk_frozen BK347.out 0; have hfz29_1 := blk_frozen BK347.out 1; have hfz29_2 := blk_frozen BK347.out 2) | ((with_reducible refine gate_callee (f := 34) rfl ?_); refine goesL_ (some 26) rfl rfl Try.func34 (by kernel_rfl) rfl #[.agg #[.bool ((rd_T59 l0_3 x21_2).f0), .slice A346_1 ((rd_T59 l0_3 x21_2).f1).length c346_1, .string ((rd_T59 l0_3 x21_2).f2)]] rfl qm ?_; (with_reducible refine (impl_BlockOk.calls k2 ((rd_T59 l0_3 x21_2).f0) _ _ ((rd_T59 l0_3 x21_2).f1) ((rd_T59 l0_3 x21_2).f2) false _ ?side1 ?side2 A21.out).mono ?_); (case side1 => exact Kd.C_below HR346_1.out (qb2 HB.out GE342.out GE347.out)); (case side2 => exact HC346_1.out); rintro e w30 ⟨rfl, hb⟩; refine ⟨_, rfl, ?_⟩; have n0_ := Aside0.mk (blk_below (g := gb342) (o := .cells #[.slice A0_0 l0_0.length c0_0, .slice A0_1 l0_1.length c0_1, .slice A0_2 l0_2.length c0_2, .slice (some ad346) l0_3.length c0_3] 39 (0, 0)) (by refine qK ?_; refine blk_far ?_ NB342_347.out _; refine qK ?_; refine blk_far ?_ NB342_347.out _; refine qK ?_; refine blk_far ?_ NB342_347.out _; refine qK ?_; exact BK342.out) hb); have n1_ := Aside0.mk (blk_below (g := gb347) (o := .cells #[.bool ((rd_T59 l0_3 x21_2).f0), .slice A346_1 ((rd_T59 l0_3 x21_2).f1).length c346_1, .string ((rd_T59 l0_3 x21_2).f2)] 59 (0, 0)) (by refine qK ?_; refine blk_put (cs := #[.bool ((rd_T59 l0_3 x21_2).f0), .slice A346_1 ((rd_T59 l0_3 x21_2).f1).length c346_1, .string (⟨#[]⟩ : ByteArray)]) ?_ 2 _ rfl; refine qK ?_; refine blk_put (cs := #[.bool ((rd_T59 l0_3 x21_2).f0), .slice none 0 0, .string (⟨#[]⟩ : ByteArray)]) ?_ 1 _ rfl; refine qK ?_; refine blk_put (cs := #[.bool false, .slice none 0 0, .string (⟨#[]⟩ : ByteArray)]) ?_ 0 _ rfl; refine qK ?_; exact BK347.out) hb); have n2_ := Aside0.mk (below_step (qb2 HB.out GE342.out GE347.out) hb); clear BK342; clear BK347; clear HB; have BK342 := n0_; have BK347 := n1_; have HB := n2_; clear n0_ n1_ n2_; (try clear hb); (try clear hb2); (try clear hk); (try clear hi)))
          go_ret
          exact ⟨qe, qb2 HB.out GE342.out GE347.out⟩
        ·rw [if_neg c20] at H
         exact absurd H (by simp)
       ·rw [if_neg c19] at H
        exact absurd H (by simp)
      ·rw [if_neg c18] at H
       have c18b0 : decide (x21_2 < (l0_3.length : Int)) = false := decide_eq_false c18
       clear c18
       replace H := Option.bind_eq_some_iff.mp H
       obtain ⟨t349, A310, H⟩ := H
       replace H : (if t349 = true then (if (l0_2.length : Int) = 8 then (some ((l0_3.length : Int) == 16)) else (some false)) else (some false)) = some r := H
       have A31 := Aside0.mk A310
       clear A310
       by_cases c32 : t349 = true
       ·subst c32
        have H1 : (if (l0_2.length : Int) = 8 then (some ((l0_3.length : Int) == 16)) else (some false)) = some r := by rw [if_pos rfl] at H; exact H
        clear H
        have H := H1
        clear H1
        by_cases c33 : (l0_2.length : Int) = 8
        ·rw [if_pos c33] at H
         have c33b0 : ((l0_2.length : Int) == 8) = true := beq_iff_eq.mpr c33
         have c33b1 : ((l0_2.length : Int) != 8) = false := bne_eq_false_iff_eq.mpr c33
         clear c33
         obtain rfl := Option.some.inj H
         have hcz34_0 : wr.cell? ⟨gb342, 0, none⟩ = some (.slice A0_0 l0_0.length c0_0) := (blk_cell BK342.out 0).trans rfl
         have hcz34_1 : wr.cell? ⟨gb342, 1, none⟩ = some (.slice A0_1 l0_1.length c0_1) := (blk_cell BK342.out 1).trans rfl
         have hcz34_2 : wr.cell? ⟨gb342, 2, none⟩ = some (.slice A0_2 l0_2.length c0_2) := (blk_cell BK342.out 2).trans rfl
         have hcz34_3 : wr.cell? ⟨gb342, 3, none⟩ = some (.slice A0_3 l0_3.length c0_3) := (blk_cell BK342.out 3).trans rfl
         have hfz34_0 := blk_frozen BK342.out 0
         have hfz34_1 := blk_frozen BK342.out 1
         have hfz34_2 := blk_frozen BK342.out 2
         have hfz34_3 := blk_frozen BK342.out 3
         go_wp2_with (first | ((with_reducible refine gate_callee (f := 120) rfl ?_); refine goesL_ (some 31) rfl rfl Try.func120 (by kernel_rfl) rfl #[.agg #[.slice A0_0 l0_0.length c0_0, .slice A0_1 l0_1.length c0_1]] rfl qm ?_; (with_reducible refine (impl_BitsOk.calls _ _ l0_0 _ _ l0_1 true _ ?side1 ?side2 ?side3 ?side4 A31.out).mono ?_); (case side1 => repeat (first | exact (Kd.C_below HR0_0.out HB.out) | (with_reducible refine Kd.C_alloc ?_ _) | (with_reducible refine Kd.C_drewN ?_ _) | (with_reducible refine Kd.C_drew ?_))); (case side2 => exact HC0_0.out); (case side3 => repeat (first | exact (Kd.C_below HR0_1.out HB.out) | (with_reducible refine Kd.C_alloc ?_ _) | (with_reducible refine Kd.C_drewN ?_ _) | (with_reducible refine Kd.C_drew ?_))); (case side4 => exact HC0_1.out); rintro e w35 ⟨rfl, hb⟩; refine ⟨_, rfl, ?_⟩; have n0_ := Aside0.mk (blk_below (g := gb342) (o := .cells #[.slice A0_0 l0_0.length c0_0, .slice A0_1 l0_1.length c0_1, .slice A0_2 l0_2.length c0_2, .slice A0_3 l0_3.length c0_3] 39 (0, 0)) (qk BK342.out) hb); have n1_ := Aside0.mk (below_step (qb1 HB.out GE342.out) hb); clear BK342; clear HB; have BK342 := n0_; have HB := n1_; clear n0_ n1_; (try clear hb); (try clear hb2); (try clear hk); (try clear hi); have hcz36_0 : w35.cell? ⟨gb342, 0, none⟩ = some (.slice A0_0 l0_0.length c0_0) := (blk_cell BK342.out 0).trans rfl; have hcz36_1 : w35.cell? ⟨gb342, 1, none⟩ = some (.slice A0_1 l0_1.length c0_1) := (blk_cell BK342.out 1).trans rfl; have hcz36_2 : w35.cell? ⟨gb342, 2, none⟩ = some (.slice A0_2 l0_2.length c0_2) := (blk_cell BK342.out 2).trans rfl; have hcz36_3 : w35.cell? ⟨gb342, 3, none⟩ = some (.slice A0_3 l0_3.length c0_3) := (blk_cell BK342.out 3).trans rfl; have hfz36_0 := blk_frozen BK342.out 0; have hfz36_1 := blk_frozen BK342.out 1; have hfz36_2 := blk_frozen BK342.out 2; have hfz36_3 := blk_frozen BK342.out 3))
         go_ret
         exact ⟨qe, qb1 HB.out GE342.out⟩
        ·rw [if_neg c33] at H
         have c33b0 : ((l0_2.length : Int) == 8) = false := beq_eq_false_iff_ne.mpr c33
         have c33b1 : ((l0_2.length : Int) != 8) = true := bne_iff_ne.mpr c33
         obtain rfl := Option.some.inj H
         have hcz37_0 : wr.cell? ⟨gb342, 0, none⟩ = some (.slice A0_0 l0_0.length c0_0) := (blk_cell BK342.out 0).trans rfl
         have hcz37_1 : wr.cell? ⟨gb342, 1, none⟩ = some (.slice A0_1 l0_1.length c0_1) := (blk_cell BK342.out 1).trans rfl
         have hcz37_2 : wr.cell? ⟨gb342, 2, none⟩ = some (.slice A0_2 l0_2.length c0_2) := (blk_cell BK342.out 2).trans rfl
         have hcz37_3 : wr.cell? ⟨gb342, 3, none⟩ = some (.slice A0_3 l0_3.length c0_3) := (blk_cell BK342.out 3).trans rfl
         have hfz37_0 := blk_frozen BK342.out 0
         have hfz37_1 := blk_frozen BK342.out 1
         have hfz37_2 := blk_frozen BK342.out 2
         have hfz37_3 := blk_frozen BK342.out 3
         go_wp2_with (first | ((with_reducible refine gate_callee (f := 120) rfl ?_); refine goesL_ (some 31) rfl rfl Try.func120 (by kernel_rfl) rfl #[.agg #[.slice A0_0 l0_0.length c0_0, .slice A0_1 l0_1.length c0_1]] rfl qm ?_; (with_reducible refine (impl_BitsOk.calls _ _ l0_0 _ _ l0_1 true _ ?side1 ?side2 ?side3 ?side4 A31.out).mono ?_); (case side1 => repeat (first | exact (Kd.C_below HR0_0.out HB.out) | (with_reducible refine Kd.C_alloc ?_ _) | (with_reducible refine Kd.C_drewN ?_ _) | (with_reducible refine Kd.C_drew ?_))); (case side2 => exact HC0_0.out); (case side3 => repeat (first | exact (Kd.C_below HR0_1.out HB.out) | (with_reducible refine Kd.C_alloc ?_ _) | (with_reducible refine Kd.C_drewN ?_ _) | (with_reducible refine Kd.C_drew ?_))); (case side4 => exact HC0_1.out); rintro e w38 ⟨rfl, hb⟩; refine ⟨_, rfl, ?_⟩; have n0_ := Aside0.mk (blk_below (g := gb342) (o := .cells #[.slice A0_0 l0_0.length c0_0, .slice A0_1 l0_1.length c0_1, .slice A0_2 l0_2.length c0_2, .slice A0_3 l0_3.length c0_3] 39 (0, 0)) (qk BK342.out) hb); have n1_ := Aside0.mk (below_step (qb1 HB.out GE342.out) hb); clear BK342; clear HB; have BK342 := n0_; have HB := n1_; clear n0_ n1_; (try clear hb); (try clear hb2); (try clear hk); (try clear hi); have hcz39_0 : w38.cell? ⟨gb342, 0, none⟩ = some (.slice A0_0 l0_0.length c0_0) := (blk_cell BK342.out 0).trans rfl; have hcz39_1 : w38.cell? ⟨gb342, 1, none⟩ = some (.slice A0_1 l0_1.length c0_1) := (blk_cell BK342.out 1).trans rfl; have hcz39_2 : w38.cell? ⟨gb342, 2, none⟩ = some (.slice A0_2 l0_2.length c0_2) := (blk_cell BK342.out 2).trans rfl; have hcz39_3 : w38.cell? ⟨gb342, 3, none⟩ = some (.slice A0_3 l0_3.length c0_3) := (blk_cell BK342.out 3).trans rfl; have hfz39_0 := blk_frozen BK342.out 0; have hfz39_1 := blk_frozen BK342.out 1; have hfz39_2 := blk_frozen BK342.out 2; have hfz39_3 := blk_frozen BK342.out 3))
         go_ret
         exact ⟨qe, qb1 HB.out GE342.out⟩
       ·replace c32 := Bool.eq_false_iff.mpr c32
        subst c32
        have H1 : (some false) = some r := by rw [if_neg (show ¬ (false = true) by decide)] at H; exact H
        clear H
        have H := H1
        clear H1
        obtain rfl := Option.some.inj H
        have hcz40_0 : wr.cell? ⟨gb342, 0, none⟩ = some (.slice A0_0 l0_0.length c0_0) := (blk_cell BK342.out 0).trans rfl
        have hcz40_1 : wr.cell? ⟨gb342, 1, none⟩ = some (.slice A0_1 l0_1.length c0_1) := (blk_cell BK342.out 1).trans rfl
        have hcz40_2 : wr.cell? ⟨gb342, 2, none⟩ = some (.slice A0_2 l0_2.length c0_2) := (blk_cell BK342.out 2).trans rfl
        have hcz40_3 : wr.cell? ⟨gb342, 3, none⟩ = some (.slice A0_3 l0_3.length c0_3) := (blk_cell BK342.out 3).trans rfl
        have hfz40_0 := blk_frozen BK342.out 0
        have hfz40_1 := blk_frozen BK342.out 1
        have hfz40_2 := blk_frozen BK342.out 2
        have hfz40_3 := blk_frozen BK342.out 3
        go_wp2_with (first | ((with_reducible refine gate_callee (f := 120) rfl ?_); refine goesL_ (some 31) rfl rfl Try.func120 (by kernel_rfl) rfl #[.agg #[.slice A0_0 l0_0.length c0_0, .slice A0_1 l0_1.length c0_1]] rfl qm ?_; (with_reducible refine (impl_BitsOk.calls _ _ l0_0 _ _ l0_1 false _ ?side1 ?side2 ?side3 ?side4 A31.out).mono ?_); (case side1 => repeat (first | exact (Kd.C_below HR0_0.out HB.out) | (with_reducible refine Kd.C_alloc ?_ _) | (with_reducible refine Kd.C_drewN ?_ _) | (with_reducible refine Kd.C_drew ?_))); (case side2 => exact HC0_0.out); (case side3 => repeat (first | exact (Kd.C_below HR0_1.out HB.out) | (with_reducible refine Kd.C_alloc ?_ _) | (with_reducible refine Kd.C_drewN ?_ _) | (with_reducible refine Kd.C_drew ?_))); (case side4 => exact HC0_1.out); rintro e w41 ⟨rfl, hb⟩; refine ⟨_, rfl, ?_⟩; have n0_ := Aside0.mk (blk_below (g := gb342) (o := .cells #[.slice A0_0 l0_0.length c0_0, .slice A0_1 l0_1.length c0_1, .slice A0_2 l0_2.length c0_2, .slice A0_3 l0_3.length c0_3] 39 (0, 0)) (qk BK342.out) hb); have n1_ := Aside0.mk (below_step (qb1 HB.out GE342.out) hb); clear BK342; clear HB; have BK342 := n0_; have HB := n1_; clear n0_ n1_; (try clear hb); (try clear hb2); (try clear hk); (try clear hi)))
        go_ret
        exact ⟨qe, qb1 HB.out GE342.out⟩

end Go.Proofs.Ytdnbpapolckklaa.PFnExactUnitText
