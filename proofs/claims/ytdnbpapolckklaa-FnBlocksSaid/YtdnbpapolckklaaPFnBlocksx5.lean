-- Written by a program of this session (a changed copy of the kit's print: wip/print2). Lean checks it.
import Derived.Test.YtdnbpapolckklaaPFnBlocksx0
import Derived.Test.YtdnbpapolckklaaPFnBlocksx4
namespace Go.Proofs.Ytdnbpapolckklaa.PFnBlocks
open Go.RowKit Go.Proofs.YtdnbpapolckklaaW.PrintWords Go.Proofs.YtdnbpapolckklaaW.PrintLast Go.Proofs.YtdnbpapolckklaaW.PrintMore
attribute [local go_sem] max2_int min2_int max_two min_two max_three min_three max_four min_four   -- for this text's walks alone
attribute [local go_sem] Go.Proofs.Ytdnbpapolckklaa.Pad.isSome_setCell
set_option linter.unusedVariables false
set_option linter.unusedSimpArgs false

/-! ### impl_BlockText: function 43 -/
def impl_BlockText.l0 : Nat → ByteArray → List (S69) → Int → Int → Option (ByteArray × Bool)
 | 0, _, _, _, _ => none
 | k + 1, x4, x19, x20, x21 => if x21 < x20 then (if 0 ≤ x21 then (if x21 < (x19.length : Int) then ((impl_ShortText.f k ((rd_T69 x19 x21).f0)).bind fun bt141 => ((impl_byteTexts.f k (([(rd_T69 x19 x21).f1] : List Int))).bind fun t146 => (if t146.size + bt141.1.size ≤ 9223372036854775807 then (if x4.size + (t146 ++ bt141.1).size ≤ 9223372036854775807 then (impl_BlockText.l0 k (x4 ++ (t146 ++ bt141.1)) x19 x20 (wrap64 (x21 + 1))) else (none)) else (none)))) else (none)) else (none)) else (some (x4, true))
def impl_BlockText.f (k : Nat) (a0_0 : Bool) (l0_1 : List (S69)) (a0_2 : ByteArray) : Option (ByteArray × Bool) := (impl_BlockOk.f k a0_0 l0_1 a0_2).bind fun t138 => (if t138 = true then (if a0_0 = true then (impl_BlockText.l0 k (⟨#[100]⟩ : ByteArray) l0_1 (l0_1.length : Int) 0) else (if 1 + a0_2.size ≤ 9223372036854775807 then (some ((⟨#[116]⟩ : ByteArray) ++ a0_2, true)) else (none))) else (some ((⟨#[]⟩ : ByteArray), false)))
theorem impl_BlockText.mono_l : ∀ k, (∀ y0 y1 y2 y3, LeO (impl_BlockText.l0 k y0 y1 y2 y3) (impl_BlockText.l0 (k + 1) y0 y1 y2 y3))
 | 0 => fun _ _ _ _ r h => by simp [impl_BlockText.l0] at h
 | k + 1 => by
  have ih0 := impl_BlockText.mono_l k
  ·intro y0 y1 y2 y3
   unfold impl_BlockText.l0
   repeat' first
   | (with_reducible exact ih0 _ _ _ _)
   | (with_reducible exact impl_BlockOk.mono _ _ _ _)
   | (with_reducible exact impl_ShortText.mono _ _)
   | (with_reducible exact impl_byteTexts.mono _ _)
   | with_reducible first | exact LeO.refl _ | exact LeO.none _ | refine LeO.ite ?_ ?_ | refine LeO.bind ?_ (fun _ => ?_)
   | exact ih0 _ _ _ _
   | exact impl_BlockOk.mono _ _ _ _
   | exact impl_ShortText.mono _ _
   | exact impl_byteTexts.mono _ _
   | exact LeO.none _
   | refine LeO.ite ?_ ?_
   | refine LeO.bind ?_ (fun _ => ?_)
theorem impl_BlockText.mono : ∀ a0 a1 a2 k, LeO (impl_BlockText.f k a0 a1 a2) (impl_BlockText.f (k + 1) a0 a1 a2) := by
 intro a0 a1 a2 k
 have ih0 := impl_BlockText.mono_l k
 unfold impl_BlockText.f
 repeat' first
   | (with_reducible exact ih0 _ _ _ _)
   | (with_reducible exact impl_BlockOk.mono _ _ _ _)
   | (with_reducible exact impl_ShortText.mono _ _)
   | (with_reducible exact impl_byteTexts.mono _ _)
   | with_reducible first | exact LeO.refl _ | exact LeO.none _ | refine LeO.ite ?_ ?_ | refine LeO.bind ?_ (fun _ => ?_)
   | exact ih0 _ _ _ _
   | exact impl_BlockOk.mono _ _ _ _
   | exact impl_ShortText.mono _ _
   | exact impl_byteTexts.mono _ _
   | exact LeO.none _
   | refine LeO.ite ?_ ?_
   | refine LeO.bind ?_ (fun _ => ?_)
set_option maxHeartbeats 8000000 in
set_option maxRecDepth 100000 in
theorem impl_BlockText.calls (k : Nat) (a0_0 : Bool) (A0_1 : Option Addr) (c0_1 : Nat) (l0_1 : List (S69)) (a0_2 : ByteArray) (r1 : ByteArray) (r2 : Bool) (w : World) (hr0_1 : Kd.C k69 w A0_1 l0_1.length l0_1) (hc0_1 : l0_1.length ≤ c0_1) (h : impl_BlockText.f k a0_0 l0_1 a0_2 = some (r1, r2)) :
  Calls Try.prog 43 #[.agg #[.bool a0_0, .slice A0_1 l0_1.length c0_1, .string a0_2]] w fun e w' => e = .returned (.tuple #[.string r1, .bool r2]) ∧ Below w.heap.size w w' := by
 have hu59 := Try.underlying59
 have hu69 := Try.underlying69
 have HR0_1 := Aside0.mk hr0_1
 have HC0_1 := Aside0.mk hc0_1
 clear hr0_1 hc0_1
 have HB := Aside0.mk (Below.refl w.heap.size w)
 have H : ((impl_BlockOk.f k a0_0 l0_1 a0_2).bind fun t138 => (if t138 = true then (if a0_0 = true then (impl_BlockText.l0 k (⟨#[100]⟩ : ByteArray) l0_1 (l0_1.length : Int) 0) else (if 1 + a0_2.size ≤ 9223372036854775807 then (some ((⟨#[116]⟩ : ByteArray) ++ a0_2, true)) else (none))) else (some ((⟨#[]⟩ : ByteArray), false)))) = some (r1, r2) := h
 clear h
 replace H := Option.bind_eq_some_iff.mp H
 obtain ⟨t138, A20, H⟩ := H
 replace H : (if t138 = true then (if a0_0 = true then (impl_BlockText.l0 k (⟨#[100]⟩ : ByteArray) l0_1 (l0_1.length : Int) 0) else (if 1 + a0_2.size ≤ 9223372036854775807 then (some ((⟨#[116]⟩ : ByteArray) ++ a0_2, true)) else (none))) else (some ((⟨#[]⟩ : ByteArray), false))) = some (r1, r2) := H
 have A2 := Aside0.mk A20
 clear A20
 by_cases c3 : t138 = true
 ·subst c3
  have H1 : (if a0_0 = true then (impl_BlockText.l0 k (⟨#[100]⟩ : ByteArray) l0_1 (l0_1.length : Int) 0) else (if 1 + a0_2.size ≤ 9223372036854775807 then (some ((⟨#[116]⟩ : ByteArray) ++ a0_2, true)) else (none))) = some (r1, r2) := by rw [if_pos rfl] at H; exact H
  clear H
  have H := H1
  clear H1
  by_cases c4 : a0_0 = true
  ·subst c4
   have H1 : (impl_BlockText.l0 k (⟨#[100]⟩ : ByteArray) l0_1 (l0_1.length : Int) 0) = some (r1, r2) := by rw [if_pos rfl] at H; exact H
   clear H
   have H := H1
   clear H1
   have H' := Aside0.mk H
   clear H
   go_enter Try.func43, Try.ntmps43
   go_wp2_with (first | ((with_reducible refine gate_dst (N := 1) rfl ?_); refine box_event ?hg (N := 1) ?hd (cs := #[.bool true, .slice A0_1 l0_1.length c0_1, .string a0_2]) (t := 59) ?hr ?_; (case hd => rfl); (case hg => rfl); (case hr => first | (go_simp; done) | (go_simp; rfl)); intro gb137 hg w5 hbox hb; have n0_ := Aside0.mk (below_step (qb HB.out) hb); have n1_ := Aside0.mk (hbox); have n2_ := Aside0.mk ((by rw [hg]; exact (below_size (qb HB.out)) : w.heap.size ≤ gb137)); have n3_ := Aside0.mk ((by rw [hg]; exact (below_size (qb HB.out)) : w.heap.size ≤ gb137)); clear HB; have HB := n0_; have BK137 := n1_; have GW137 := n2_; have GE137 := n3_; clear n0_ n1_ n2_ n3_; clear hb hbox hg; have hcz6_0 : w5.cell? ⟨gb137, 0, none⟩ = some (.bool true) := (blk_cell BK137.out 0).trans rfl; have hcz6_1 : w5.cell? ⟨gb137, 1, none⟩ = some (.slice A0_1 l0_1.length c0_1) := (blk_cell BK137.out 1).trans rfl; have hcz6_2 : w5.cell? ⟨gb137, 2, none⟩ = some (.string a0_2) := (blk_cell BK137.out 2).trans rfl; have hfz6_0 := blk_frozen BK137.out 0; have hfz6_1 := blk_frozen BK137.out 1; have hfz6_2 := blk_frozen BK137.out 2) | ((with_reducible refine gate_callee (f := 34) rfl ?_); refine goesL_ (some 10) rfl rfl Try.func34 (by kernel_rfl) rfl #[.agg #[.bool true, .slice A0_1 l0_1.length c0_1, .string a0_2]] rfl qm ?_; (with_reducible refine (impl_BlockOk.calls k true _ _ l0_1 a0_2 true _ ?side1 ?side2 A2.out).mono ?_); (case side1 => repeat (first | exact (Kd.C_below HR0_1.out HB.out) | (with_reducible refine Kd.C_alloc ?_ _) | (with_reducible refine Kd.C_drewN ?_ _) | (with_reducible refine Kd.C_drew ?_))); (case side2 => exact HC0_1.out); rintro e w7 ⟨rfl, hb⟩; refine ⟨_, rfl, ?_⟩; have n0_ := Aside0.mk (blk_below (g := gb137) (o := .cells #[.bool true, .slice A0_1 l0_1.length c0_1, .string a0_2] 59 (0, 0)) (qk BK137.out) hb); have n1_ := Aside0.mk (below_step (qb1 HB.out GE137.out) hb); clear BK137; clear HB; have BK137 := n0_; have HB := n1_; clear n0_ n1_; (try clear hb); (try clear hb2); (try clear hk); (try clear hi); have hcz8_0 : w7.cell? ⟨gb137, 0, none⟩ = some (.bool true) := (blk_cell BK137.out 0).trans rfl; have hcz8_1 : w7.cell? ⟨gb137, 1, none⟩ = some (.slice A0_1 l0_1.length c0_1) := (blk_cell BK137.out 1).trans rfl; have hcz8_2 : w7.cell? ⟨gb137, 2, none⟩ = some (.string a0_2) := (blk_cell BK137.out 2).trans rfl; have hfz8_0 := blk_frozen BK137.out 0; have hfz8_1 := blk_frozen BK137.out 1; have hfz8_2 := blk_frozen BK137.out 2))
   go_loopg [4, 21] k (fun kq v4 v21 w' => ∃ (x4_1 : ByteArray) (x21_1 : Int), v4 = .string x4_1 ∧ v21 = .int .i64 x21_1 ∧ Aside0 (impl_BlockText.l0 kq x4_1 l0_1 (l0_1.length : Int) x21_1 = some (r1, r2)) ∧ Aside0 (kq ≤ k) ∧ Aside0 (w'.heap[gb137]? = some (.cells #[.bool true, (.slice A0_1 l0_1.length c0_1), .string a0_2] 59 (0, 0))) ∧ Aside0 (Below w.heap.size w w'))
   case atStart => exact ⟨((⟨#[100]⟩ : ByteArray)), (0), qz, qz, H', ⟨Nat.le_refl _⟩, ⟨qk BK137.out⟩, ⟨qb1 HB.out GE137.out⟩⟩
   case round =>
    clear H'
    try clear p2
    try clear c3
    try clear c4
    try clear hcz6_0
    try clear hcz6_1
    try clear hcz6_2
    try clear hcz8_0
    try clear hcz8_1
    try clear hcz8_2
    try clear hfz6_0
    try clear hfz6_1
    try clear hfz6_2
    try clear hfz8_0
    try clear hfz8_1
    try clear hfz8_2
    obtain ⟨x4_1, x21_1, rfl, rfl, HA, HK1, BK137, HB⟩ := hrel
    cases gk with
    | zero => exact absurd HA.out (by simp [impl_BlockText.l0])
    | succ k1 =>
     have H := HA.out
     clear HA
     simp only [impl_BlockText.l0] at H
     by_cases c9 : x21_1 < (l0_1.length : Int)
     ·rw [if_pos c9] at H
      have c9b0 : decide (x21_1 < (l0_1.length : Int)) = true := decide_eq_true c9
      clear c9
      by_cases c10 : 0 ≤ x21_1
      ·rw [if_pos c10] at H
       have c10b0 : decide (0 ≤ x21_1) = true := decide_eq_true c10
       clear c10
       by_cases c11 : x21_1 < (l0_1.length : Int)
       ·rw [if_pos c11] at H
        have c11b0 : decide (x21_1 < (l0_1.length : Int)) = true := decide_eq_true c11
        clear c11
        replace H := Option.bind_eq_some_iff.mp H
        obtain ⟨⟨t141, t142⟩, A120, H⟩ := H
        replace H : ((impl_byteTexts.f k1 (([(rd_T69 l0_1 x21_1).f1] : List Int))).bind fun t146 => (if t146.size + t141.size ≤ 9223372036854775807 then (if x4_1.size + (t146 ++ t141).size ≤ 9223372036854775807 then (impl_BlockText.l0 k1 (x4_1 ++ (t146 ++ t141)) l0_1 (l0_1.length : Int) (wrap64 (x21_1 + 1))) else (none)) else (none))) = some (r1, r2) := H
        have A12 := Aside0.mk A120
        clear A120
        obtain ⟨y143, hy143⟩ : ∃ y_ : List Int, y_ = (([(rd_T69 l0_1 x21_1).f1] : List Int)) := ⟨_, rfl⟩
        replace H : ((impl_byteTexts.f k1 y143).bind fun t146 => (if t146.size + t141.size ≤ 9223372036854775807 then (if x4_1.size + (t146 ++ t141).size ≤ 9223372036854775807 then (impl_BlockText.l0 k1 (x4_1 ++ (t146 ++ t141)) l0_1 (l0_1.length : Int) (wrap64 (x21_1 + 1))) else (none)) else (none))) = some (r1, r2) := by first | (rw [hy143]; with_reducible exact H) | (have H2_ := (Option.bind_some _ _).symm.trans H; rw [hy143]; with_reducible exact H2_) | (have H2_ := (Option.bind_some _ _).symm.trans H; with_reducible exact H2_) | with_reducible exact H | (rw [hy143]; exact H) | exact H
        have Ny143 := Aside0.mk hy143
        clear hy143
        replace H := Option.bind_eq_some_iff.mp H
        obtain ⟨t146, A130, H⟩ := H
        replace H : (if t146.size + t141.size ≤ 9223372036854775807 then (if x4_1.size + (t146 ++ t141).size ≤ 9223372036854775807 then (impl_BlockText.l0 k1 (x4_1 ++ (t146 ++ t141)) l0_1 (l0_1.length : Int) (wrap64 (x21_1 + 1))) else (none)) else (none)) = some (r1, r2) := H
        have A13 := Aside0.mk A130
        clear A130
        by_cases c14 : t146.size + t141.size ≤ 9223372036854775807
        ·rw [if_pos c14] at H
         have c14b0 := eq_true c14
         have c14b1 : decide (t146.size + t141.size ≤ 9223372036854775807) = true := decide_eq_true c14
         try have c14b2 : (9223372036854775807 < t146.size + t141.size) = False := eq_false (Nat.not_lt.2 c14)
         by_cases c15 : x4_1.size + (t146 ++ t141).size ≤ 9223372036854775807
         ·rw [if_pos c15] at H
          have c15b0 := eq_true c15
          have c15b1 : decide (x4_1.size + (t146 ++ t141).size ≤ 9223372036854775807) = true := decide_eq_true c15
          try have c15b2 : (9223372036854775807 < x4_1.size + (t146 ++ t141).size) = False := eq_false (Nat.not_lt.2 c15)
          try have c15b3 : (9223372036854775807 < x4_1.size + t146.size + t141.size) = False := eq_false (by have h_ := c15; simp only [ByteArray.size_append, ByteArray.size_extract] at h_; omega)
          have H' := Aside0.mk H
          clear H
          have p139 : 0 ≤ (x21_1 : Int) := qo
          have q139 : x21_1 < (l0_1.length : Int) := qo
          obtain ⟨ad139, e139, hx139_0, hx139_1⟩ := at_T69 HR0_1.out x21_1 p139 q139
          cases e139
          replace hx139_0 := qc HB.out hx139_0
          replace hx139_1 := qc HB.out hx139_1
          replace p139 := eq_true p139
          replace q139 := eq_true q139
          go_wp2_with (first | ((with_reducible refine gate_dst (N := 6) rfl ?_); refine box_event ?hg (N := 6) ?hd (cs := #[.string (⟨#[]⟩ : ByteArray), .int .i64 0]) (t := 69) ?hr ?_; (case hd => rfl); (case hg => rfl); (case hr => first | (go_simp; done) | (go_simp; rfl)); intro gb140 hg w16 hbox hb; have n0_ := Aside0.mk (blk_below (g := gb137) (o := .cells #[.bool true, .slice (some ad139) l0_1.length c0_1, .string a0_2] 59 (0, 0)) (qk BK137.out) hb); have n1_ := Aside0.mk (below_step (qb1 HB.out GE137.out) hb); have n2_ := Aside0.mk (hbox); have n3_ := Aside0.mk ((by rw [hg]; exact (below_size (qb1 HB.out GE137.out)) : w.heap.size ≤ gb140)); have n4_ := Aside0.mk ((by rw [hg]; exact (below_size (qb1 HB.out GE137.out)) : w.heap.size ≤ gb140)); have n5_ := Aside0.mk ((by rw [hg]; exact Nat.ne_of_lt (blk_lt (g := gb137) (o := .cells #[.bool true, .slice (some ad139) l0_1.length c0_1, .string a0_2] 59 (0, 0)) (qk BK137.out)) : gb137 ≠ gb140)); have n6_ := Aside0.mk ((by rw [hg]; exact Nat.ne_of_gt (blk_lt (g := gb137) (o := .cells #[.bool true, .slice (some ad139) l0_1.length c0_1, .string a0_2] 59 (0, 0)) (qk BK137.out)) : gb140 ≠ gb137)); clear BK137; clear HB; have BK137 := n0_; have HB := n1_; have BK140 := n2_; have GW140 := n3_; have GE140 := n4_; have NB137_140 := n5_; have NB140_137 := n6_; clear n0_ n1_ n2_ n3_ n4_ n5_ n6_; clear hb hbox hg; have hnb17 := NB140_137.out; have hnc17 := NB137_140.out; have hcz18_0 : w16.cell? ⟨gb140, 0, none⟩ = some (.string (⟨#[]⟩ : ByteArray)) := (blk_cell BK140.out 0).trans rfl; have hcz18_1 : w16.cell? ⟨gb140, 1, none⟩ = some (.int .i64 0) := (blk_cell BK140.out 1).trans rfl; have hfz18_0 := blk_frozen BK140.out 0; have hfz18_1 := blk_frozen BK140.out 1) | ((with_reducible refine gate_callee (f := 103) rfl ?_); refine goesL_ (some 28) rfl rfl Try.func103 (by kernel_rfl) rfl #[.string ((rd_T69 l0_1 x21_1).f0)] rfl qm ?_; (with_reducible refine (impl_ShortText.calls k1 ((rd_T69 l0_1 x21_1).f0) t141 t142 _ A12.out).mono ?_); rintro e w19 ⟨rfl, hb⟩; refine ⟨_, rfl, ?_⟩; have n0_ := Aside0.mk (blk_below (g := gb137) (o := .cells #[.bool true, .slice (some ad139) l0_1.length c0_1, .string a0_2] 59 (0, 0)) (by refine qK ?_; refine blk_far ?_ NB137_140.out _; refine qK ?_; refine blk_far ?_ NB137_140.out _; refine qK ?_; exact BK137.out) hb); have n1_ := Aside0.mk (blk_below (g := gb140) (o := .cells #[.string ((rd_T69 l0_1 x21_1).f0), .int .i64 ((rd_T69 l0_1 x21_1).f1)] 69 (0, 0)) (by refine qK ?_; refine blk_put (cs := #[.string ((rd_T69 l0_1 x21_1).f0), .int .i64 0]) ?_ 1 _ rfl; refine qK ?_; refine blk_put (cs := #[.string (⟨#[]⟩ : ByteArray), .int .i64 0]) ?_ 0 _ rfl; refine qK ?_; exact BK140.out) hb); have n2_ := Aside0.mk (below_step (qb2 HB.out GE137.out GE140.out) hb); clear BK137; clear BK140; clear HB; have BK137 := n0_; have BK140 := n1_; have HB := n2_; clear n0_ n1_ n2_; (try clear hb); (try clear hb2); (try clear hk); (try clear hi); have hcz20_0 : w19.cell? ⟨gb140, 0, none⟩ = some (.string ((rd_T69 l0_1 x21_1).f0)) := (blk_cell BK140.out 0).trans rfl; have hcz20_1 : w19.cell? ⟨gb140, 1, none⟩ = some (.int .i64 ((rd_T69 l0_1 x21_1).f1)) := (blk_cell BK140.out 1).trans rfl; have hfz20_0 := blk_frozen BK140.out 0; have hfz20_1 := blk_frozen BK140.out 1) | ((with_reducible refine gate_dst (N := 34) rfl ?_); refine Kd.R_lit (Kd.int .i64) _ 3 ?hg (N := 34) ?hd (xs := ([(rd_T69 l0_1 x21_1).f1] : List Int)) (inner := [.int .i64 ((rd_T69 l0_1 x21_1).f1)]) (ok := fun _ => True) (okp := fun _ => True) ?hr ?hp (fun _ hk => hk) trivial (Below.refl _ _) (Nat.le_refl _) (by simp) ?_; (case hd => rfl); (case hg => rfl); (case hr => first | (go_simp; done) | (go_simp; rfl)); (case hp => exact (Reps.one (show Kd.M (Kd.int .i64) _ _ _ ((rd_T69 l0_1 x21_1).f1) [.int .i64 ((rd_T69 l0_1 x21_1).f1)] from rfl) (Reps.none _ _))); intro v144 w21 ho22 hb hg_ hnew_; clear hg_ hnew_; (first | rw [← Ny143.out] at ho22 | (simp only [Int.reduceToNat] at ho22; rw [← Ny143.out] at ho22)); have n0_ := Aside0.mk (Kd.R_lower ho22 (below_size (qb2 HB.out GE137.out GE140.out))); have n1_ := Aside0.mk (blk_below (g := gb137) (o := .cells #[.bool true, .slice (some ad139) l0_1.length c0_1, .string a0_2] 59 (0, 0)) (qk BK137.out) hb); have n2_ := Aside0.mk (blk_below (g := gb140) (o := .cells #[.string ((rd_T69 l0_1 x21_1).f0), .int .i64 ((rd_T69 l0_1 x21_1).f1)] 69 (0, 0)) (qk BK140.out) hb); have n3_ := Aside0.mk (below_step (qb2 HB.out GE137.out GE140.out) hb); clear BK137; clear BK140; clear HB; have HO145 := n0_; have BK137 := n1_; have BK140 := n2_; have HB := n3_; clear n0_ n1_ n2_ n3_; clear hb ho22; obtain ⟨Ao23, co23, eo23⟩ := Kd.R_slice HO145.out; subst eo23) | ((with_reducible refine gate_callee (f := 83) rfl ?_); refine goesL_ (some 35) rfl rfl Try.func83 (by kernel_rfl) rfl #[.slice Ao23 y143.length co23] rfl qm ?_; (with_reducible refine (impl_byteTexts.calls k1 _ _ y143 t146 _ ?side1 ?side2 A13.out).mono ?_); (case side1 => repeat (first | exact (Kd.R_reads' HO145.out).2.2 | (with_reducible refine Kd.C_alloc ?_ _) | (with_reducible refine Kd.C_drewN ?_ _) | (with_reducible refine Kd.C_drew ?_))); (case side2 => exact (Kd.R_reads' HO145.out).2.1); rintro e w24 ⟨rfl, hb⟩; refine ⟨_, rfl, ?_⟩; have n0_ := Aside0.mk (Kd.R_below (qr HO145.out) hb); have n1_ := Aside0.mk (blk_below (g := gb137) (o := .cells #[.bool true, .slice (some ad139) l0_1.length c0_1, .string a0_2] 59 (0, 0)) (qk BK137.out) hb); have n2_ := Aside0.mk (blk_below (g := gb140) (o := .cells #[.string ((rd_T69 l0_1 x21_1).f0), .int .i64 ((rd_T69 l0_1 x21_1).f1)] 69 (0, 0)) (qk BK140.out) hb); have n3_ := Aside0.mk (below_step (qb2 HB.out GE137.out GE140.out) hb); clear HO145; clear BK137; clear BK140; clear HB; have HO145 := n0_; have BK137 := n1_; have BK140 := n2_; have HB := n3_; clear n0_ n1_ n2_ n3_; (try clear hb); (try clear hb2); (try clear hk); (try clear hi)))
          go_roundg k1
          case measure => have := HK1.out; omega
          case rel => exact ⟨(x4_1 ++ (t146 ++ t141)), (wrap64 (x21_1 + 1)), qz, qz, H', ⟨by have := HK1.out; omega⟩, ⟨qk BK137.out⟩, ⟨qb2 HB.out GE137.out GE140.out⟩⟩
         ·rw [if_neg c15] at H
          exact absurd H (by simp)
        ·rw [if_neg c14] at H
         exact absurd H (by simp)
       ·rw [if_neg c11] at H
        exact absurd H (by simp)
      ·rw [if_neg c10] at H
       exact absurd H (by simp)
     ·rw [if_neg c9] at H
      have c9b0 : decide (x21_1 < (l0_1.length : Int)) = false := decide_eq_false c9
      clear c9
      simp only [Option.some.injEq, Prod.mk.injEq] at H
      obtain ⟨rfl, rfl⟩ := H
      go_wp2
      go_ret2
      exact ⟨qe, qb1 HB.out GE137.out⟩
  ·replace c4 := Bool.eq_false_iff.mpr c4
   subst c4
   have H1 : (if 1 + a0_2.size ≤ 9223372036854775807 then (some ((⟨#[116]⟩ : ByteArray) ++ a0_2, true)) else (none)) = some (r1, r2) := by rw [if_neg (show ¬ (false = true) by decide)] at H; exact H
   clear H
   have H := H1
   clear H1
   by_cases c25 : 1 + a0_2.size ≤ 9223372036854775807
   ·rw [if_pos c25] at H
    have c25b0 := eq_true c25
    have c25b1 : decide (1 + a0_2.size ≤ 9223372036854775807) = true := decide_eq_true c25
    try have c25b2 : (9223372036854775807 < 1 + a0_2.size) = False := eq_false (Nat.not_lt.2 c25)
    simp only [Option.some.injEq, Prod.mk.injEq] at H
    obtain ⟨rfl, rfl⟩ := H
    go_enter Try.func43, Try.ntmps43
    go_wp2_with (first | ((with_reducible refine gate_dst (N := 1) rfl ?_); refine box_event ?hg (N := 1) ?hd (cs := #[.bool false, .slice A0_1 l0_1.length c0_1, .string a0_2]) (t := 59) ?hr ?_; (case hd => rfl); (case hg => rfl); (case hr => first | (go_simp; done) | (go_simp; rfl)); intro gb137 hg w26 hbox hb; have n0_ := Aside0.mk (below_step (qb HB.out) hb); have n1_ := Aside0.mk (hbox); have n2_ := Aside0.mk ((by rw [hg]; exact (below_size (qb HB.out)) : w.heap.size ≤ gb137)); have n3_ := Aside0.mk ((by rw [hg]; exact (below_size (qb HB.out)) : w.heap.size ≤ gb137)); clear HB; have HB := n0_; have BK137 := n1_; have GW137 := n2_; have GE137 := n3_; clear n0_ n1_ n2_ n3_; clear hb hbox hg; have hcz27_0 : w26.cell? ⟨gb137, 0, none⟩ = some (.bool false) := (blk_cell BK137.out 0).trans rfl; have hcz27_1 : w26.cell? ⟨gb137, 1, none⟩ = some (.slice A0_1 l0_1.length c0_1) := (blk_cell BK137.out 1).trans rfl; have hcz27_2 : w26.cell? ⟨gb137, 2, none⟩ = some (.string a0_2) := (blk_cell BK137.out 2).trans rfl; have hfz27_0 := blk_frozen BK137.out 0; have hfz27_1 := blk_frozen BK137.out 1; have hfz27_2 := blk_frozen BK137.out 2) | ((with_reducible refine gate_callee (f := 34) rfl ?_); refine goesL_ (some 10) rfl rfl Try.func34 (by kernel_rfl) rfl #[.agg #[.bool false, .slice A0_1 l0_1.length c0_1, .string a0_2]] rfl qm ?_; (with_reducible refine (impl_BlockOk.calls k false _ _ l0_1 a0_2 true _ ?side1 ?side2 A2.out).mono ?_); (case side1 => repeat (first | exact (Kd.C_below HR0_1.out HB.out) | (with_reducible refine Kd.C_alloc ?_ _) | (with_reducible refine Kd.C_drewN ?_ _) | (with_reducible refine Kd.C_drew ?_))); (case side2 => exact HC0_1.out); rintro e w28 ⟨rfl, hb⟩; refine ⟨_, rfl, ?_⟩; have n0_ := Aside0.mk (blk_below (g := gb137) (o := .cells #[.bool false, .slice A0_1 l0_1.length c0_1, .string a0_2] 59 (0, 0)) (qk BK137.out) hb); have n1_ := Aside0.mk (below_step (qb1 HB.out GE137.out) hb); clear BK137; clear HB; have BK137 := n0_; have HB := n1_; clear n0_ n1_; (try clear hb); (try clear hb2); (try clear hk); (try clear hi); have hcz29_0 : w28.cell? ⟨gb137, 0, none⟩ = some (.bool false) := (blk_cell BK137.out 0).trans rfl; have hcz29_1 : w28.cell? ⟨gb137, 1, none⟩ = some (.slice A0_1 l0_1.length c0_1) := (blk_cell BK137.out 1).trans rfl; have hcz29_2 : w28.cell? ⟨gb137, 2, none⟩ = some (.string a0_2) := (blk_cell BK137.out 2).trans rfl; have hfz29_0 := blk_frozen BK137.out 0; have hfz29_1 := blk_frozen BK137.out 1; have hfz29_2 := blk_frozen BK137.out 2))
    go_ret2
    exact ⟨qe, qb1 HB.out GE137.out⟩
   ·rw [if_neg c25] at H
    exact absurd H (by simp)
 ·replace c3 := Bool.eq_false_iff.mpr c3
  subst c3
  have H1 : (some ((⟨#[]⟩ : ByteArray), false)) = some (r1, r2) := by rw [if_neg (show ¬ (false = true) by decide)] at H; exact H
  clear H
  have H := H1
  clear H1
  simp only [Option.some.injEq, Prod.mk.injEq] at H
  obtain ⟨rfl, rfl⟩ := H
  go_enter Try.func43, Try.ntmps43
  go_wp2_with (first | ((with_reducible refine gate_dst (N := 1) rfl ?_); refine box_event ?hg (N := 1) ?hd (cs := #[.bool a0_0, .slice A0_1 l0_1.length c0_1, .string a0_2]) (t := 59) ?hr ?_; (case hd => rfl); (case hg => rfl); (case hr => first | (go_simp; done) | (go_simp; rfl)); intro gb137 hg w30 hbox hb; have n0_ := Aside0.mk (below_step (qb HB.out) hb); have n1_ := Aside0.mk (hbox); have n2_ := Aside0.mk ((by rw [hg]; exact (below_size (qb HB.out)) : w.heap.size ≤ gb137)); have n3_ := Aside0.mk ((by rw [hg]; exact (below_size (qb HB.out)) : w.heap.size ≤ gb137)); clear HB; have HB := n0_; have BK137 := n1_; have GW137 := n2_; have GE137 := n3_; clear n0_ n1_ n2_ n3_; clear hb hbox hg; have hcz31_0 : w30.cell? ⟨gb137, 0, none⟩ = some (.bool a0_0) := (blk_cell BK137.out 0).trans rfl; have hcz31_1 : w30.cell? ⟨gb137, 1, none⟩ = some (.slice A0_1 l0_1.length c0_1) := (blk_cell BK137.out 1).trans rfl; have hcz31_2 : w30.cell? ⟨gb137, 2, none⟩ = some (.string a0_2) := (blk_cell BK137.out 2).trans rfl; have hfz31_0 := blk_frozen BK137.out 0; have hfz31_1 := blk_frozen BK137.out 1; have hfz31_2 := blk_frozen BK137.out 2) | ((with_reducible refine gate_callee (f := 34) rfl ?_); refine goesL_ (some 10) rfl rfl Try.func34 (by kernel_rfl) rfl #[.agg #[.bool a0_0, .slice A0_1 l0_1.length c0_1, .string a0_2]] rfl qm ?_; (with_reducible refine (impl_BlockOk.calls k a0_0 _ _ l0_1 a0_2 false _ ?side1 ?side2 A2.out).mono ?_); (case side1 => repeat (first | exact (Kd.C_below HR0_1.out HB.out) | (with_reducible refine Kd.C_alloc ?_ _) | (with_reducible refine Kd.C_drewN ?_ _) | (with_reducible refine Kd.C_drew ?_))); (case side2 => exact HC0_1.out); rintro e w32 ⟨rfl, hb⟩; refine ⟨_, rfl, ?_⟩; have n0_ := Aside0.mk (blk_below (g := gb137) (o := .cells #[.bool a0_0, .slice A0_1 l0_1.length c0_1, .string a0_2] 59 (0, 0)) (qk BK137.out) hb); have n1_ := Aside0.mk (below_step (qb1 HB.out GE137.out) hb); clear BK137; clear HB; have BK137 := n0_; have HB := n1_; clear n0_ n1_; (try clear hb); (try clear hb2); (try clear hk); (try clear hi)))
  go_ret2
  exact ⟨qe, qb1 HB.out GE137.out⟩

/-! ### spec_l01Var: function 102 -/
def spec_l01Var.l0 : Nat → Int → List Int → Option (ByteArray)
 | 0, _, _ => none
 | k + 1, x0, x3 => if x0 > 127 then (if x3.length < 140737488355328 then (spec_l01Var.l0 k (wrap64 (Int.tdiv x0 128)) (x3 ++ [(wrap64 ((Int.tmod x0 128) + 128)) % 256])) else (none)) else (if x3.length < 140737488355328 then (some (strOfNums (x3 ++ [(x0) % 256]))) else (none))
def spec_l01Var.f (k : Nat) (a0 : Int) : Option (ByteArray) := spec_l01Var.l0 k a0 (([] : List Int))
theorem spec_l01Var.mono_l : ∀ k, (∀ y0 y1, LeO (spec_l01Var.l0 k y0 y1) (spec_l01Var.l0 (k + 1) y0 y1))
 | 0 => fun _ _ r h => by simp [spec_l01Var.l0] at h
 | k + 1 => by
  have ih0 := spec_l01Var.mono_l k
  ·intro y0 y1
   unfold spec_l01Var.l0
   repeat' first
   | (with_reducible exact ih0 _ _)
   | with_reducible first | exact LeO.refl _ | exact LeO.none _ | refine LeO.ite ?_ ?_ | refine LeO.bind ?_ (fun _ => ?_)
   | exact ih0 _ _
   | exact LeO.none _
   | refine LeO.ite ?_ ?_
   | refine LeO.bind ?_ (fun _ => ?_)
theorem spec_l01Var.mono : ∀ a0 k, LeO (spec_l01Var.f k a0) (spec_l01Var.f (k + 1) a0) := by
 intro a0 k
 have ih0 := spec_l01Var.mono_l k
 unfold spec_l01Var.f
 repeat' first
   | (with_reducible exact ih0 _ _)
   | with_reducible first | exact LeO.refl _ | exact LeO.none _ | refine LeO.ite ?_ ?_ | refine LeO.bind ?_ (fun _ => ?_)
   | exact ih0 _ _
   | exact LeO.none _
   | refine LeO.ite ?_ ?_
   | refine LeO.bind ?_ (fun _ => ?_)
set_option maxHeartbeats 8000000 in
set_option maxRecDepth 100000 in
theorem spec_l01Var.calls (k : Nat) (a0 : Int) (r : ByteArray) (w : World) (h : spec_l01Var.f k a0 = some r) :
  Calls Try.prog 102 #[.int .i64 a0] w fun e w' => e = .returned (.string r) ∧ Below w.heap.size w w' := by
 have HB := Aside0.mk (Below.refl w.heap.size w)
 have H : (spec_l01Var.l0 k a0 (([] : List Int))) = some r := h
 clear h
 obtain ⟨y147, hy147⟩ : ∃ y_ : List Int, y_ = (([] : List Int)) := ⟨_, rfl⟩
 replace H : (spec_l01Var.l0 k a0 y147) = some r := by first | (rw [hy147]; with_reducible exact H) | (have H2_ := (Option.bind_some _ _).symm.trans H; rw [hy147]; with_reducible exact H2_) | (have H2_ := (Option.bind_some _ _).symm.trans H; with_reducible exact H2_) | with_reducible exact H | (rw [hy147]; exact H) | exact H
 have Ny147 := Aside0.mk hy147
 clear hy147
 have H' := Aside0.mk H
 clear H
 go_enter Try.func102, Try.ntmps102
 go_wp2_with (first | ((with_reducible refine gate_dst (N := 4) rfl ?_); refine Kd.R_lit (Kd.int .u8) _ 5 ?hg (N := 4) ?hd (xs := ([] : List Int)) (inner := []) (ok := fun _ => True) (okp := fun _ => True) ?hr ?hp (fun _ hk => hk) trivial (Below.refl _ _) (Nat.le_refl _) (by simp) ?_; (case hd => rfl); (case hg => rfl); (case hr => first | (go_simp; done) | (go_simp; rfl)); (case hp => exact (Reps.none _ _)); intro v148 w2 ho3 hb hg_ hnew_; clear hg_ hnew_; (first | rw [← Ny147.out] at ho3 | (simp only [Int.reduceToNat] at ho3; rw [← Ny147.out] at ho3)); have n0_ := Aside0.mk (Kd.R_lower ho3 (below_size (qb HB.out))); have n1_ := Aside0.mk (below_step (qb HB.out) hb); clear HB; have HO149 := n0_; have HB := n1_; clear n0_ n1_; clear hb ho3))
 go_loopg [0, 3] k (fun kq v0 v3 w' => ∃ (x0_1 : Int) (x3_1 : List Int), v0 = .int .i64 x0_1 ∧ Aside0 (spec_l01Var.l0 kq x0_1 x3_1 = some r) ∧ Aside0 (kq ≤ k) ∧ Aside0 (Kd.R (Kd.int .u8) 5 w' w.heap.size (fun _ => True) v3 x3_1) ∧ Aside0 (Below w.heap.size w w'))
 case atStart => exact ⟨(a0), (y147), qz, H', ⟨Nat.le_refl _⟩, ⟨qr HO149.out⟩, ⟨qb HB.out⟩⟩
 case round =>
  clear H'
  try clear c1
  try clear p2
  obtain ⟨x0_1, x3_1, rfl, HA, HK1, HO_3, HB⟩ := hrel
  cases gk with
  | zero => exact absurd HA.out (by simp [spec_l01Var.l0])
  | succ k1 =>
   have H := HA.out
   clear HA
   simp only [spec_l01Var.l0] at H
   by_cases c4 : x0_1 > 127
   ·rw [if_pos c4] at H
    have c4b0 : decide (127 < x0_1) = true := decide_eq_true c4
    clear c4
    by_cases c5 : x3_1.length < 140737488355328
    ·rw [if_pos c5] at H
     have LMc5 := Aside0.mk c5
     clear c5
     obtain ⟨y150, hy150⟩ : ∃ y_ : List Int, y_ = (x3_1 ++ [(wrap64 ((Int.tmod x0_1 128) + 128)) % 256]) := ⟨_, rfl⟩
     replace H : (spec_l01Var.l0 k1 (wrap64 (Int.tdiv x0_1 128)) y150) = some r := by first | (rw [hy150]; with_reducible exact H) | (have H2_ := (Option.bind_some _ _).symm.trans H; rw [hy150]; with_reducible exact H2_) | (have H2_ := (Option.bind_some _ _).symm.trans H; with_reducible exact H2_) | with_reducible exact H | (rw [hy150]; exact H) | exact H
     have Ny150 := Aside0.mk hy150
     clear hy150
     have H' := Aside0.mk H
     clear H
     go_wp2_with (first | ((with_reducible refine gate_builtin (b := .append) (xs := #[.tmp 7, .tmp 12]) rfl ?_); at_builtin; refine Kd.R_append (Kd.int .u8) (w0 := w) w.heap.size rfl (.tmp 7) (.tmp 12) 65 5 (.int .u8 0) 1 rfl Try.underlying65 info5 rfl (by decide) (by omega) u3 x3_1 ((wrap64 ((Int.tmod x0_1 128) + 128)) % 256) [.int .u8 ((wrap64 ((Int.tmod x0_1 128) + 128)) % 256)] (fun _ => True) (fun _ => False) rfl rfl ?aP (fun _ hk => hk.elim) ?aF ?aO ?aB ?aS ?aL ?_; (case aP => exact rfl); (case aB => exact (qb HB.out)); (case aF => exact (fun _ _ => trivial)); (case aO => exact (qr HO_3.out)); (case aS => exact (below_size (qb HB.out))); (case aL => have := LMc5.out; omega); intro v151 w6 ho hb hg hat; rw [← Ny150.out] at ho; have n0_ := Aside0.mk (hb); have n1_ := Aside0.mk (ho); clear HB; clear HO_3; have HB := n0_; have HO152 := n1_; clear n0_ n1_; clear ho hb hg hat))
     go_roundg k1
     case measure => have := HK1.out; omega
     case rel => exact ⟨(wrap64 (Int.tdiv x0_1 128)), (y150), qz, H', ⟨by have := HK1.out; omega⟩, ⟨qr HO152.out⟩, ⟨qb HB.out⟩⟩
    ·rw [if_neg c5] at H
     exact absurd H (by simp)
   ·rw [if_neg c4] at H
    have c4b0 : decide (127 < x0_1) = false := decide_eq_false c4
    clear c4
    by_cases c7 : x3_1.length < 140737488355328
    ·rw [if_pos c7] at H
     have LMc7 := Aside0.mk c7
     clear c7
     obtain ⟨y153, hy153⟩ : ∃ y_ : List Int, y_ = (x3_1 ++ [(x0_1) % 256]) := ⟨_, rfl⟩
     replace H : (some (strOfNums y153)) = some r := by first | (rw [hy153]; with_reducible exact H) | (have H2_ := (Option.bind_some _ _).symm.trans H; rw [hy153]; with_reducible exact H2_) | (have H2_ := (Option.bind_some _ _).symm.trans H; with_reducible exact H2_) | with_reducible exact H | (rw [hy153]; exact H) | exact H
     have Ny153 := Aside0.mk hy153
     clear hy153
     obtain rfl := Option.some.inj H
     go_wp2_with (first | ((with_reducible refine gate_builtin (b := .append) (xs := #[.tmp 16, .tmp 19]) rfl ?_); at_builtin; refine Kd.R_append (Kd.int .u8) (w0 := w) w.heap.size rfl (.tmp 16) (.tmp 19) 65 5 (.int .u8 0) 1 rfl Try.underlying65 info5 rfl (by decide) (by omega) u3 x3_1 ((x0_1) % 256) [.int .u8 ((x0_1) % 256)] (fun _ => True) (fun _ => False) rfl rfl ?aP (fun _ hk => hk.elim) ?aF ?aO ?aB ?aS ?aL ?_; (case aP => exact rfl); (case aB => exact (qb HB.out)); (case aF => exact (fun _ _ => trivial)); (case aO => exact (qr HO_3.out)); (case aS => exact (below_size (qb HB.out))); (case aL => have := LMc7.out; omega); intro v154 w8 ho hb hg hat; rw [← Ny153.out] at ho; have n0_ := Aside0.mk (hb); have n1_ := Aside0.mk (ho); clear HB; clear HO_3; have HB := n0_; have HO155 := n1_; clear n0_ n1_; clear ho hb hg hat; have hcv9 := own_string (P := Try.prog) Try.underlying65 Try.underlying5 Try.underlying9 (Kd.own_of_R HO155.out)))
     go_ret
     exact ⟨qe, qb HB.out⟩
    ·rw [if_neg c7] at H
     exact absurd H (by simp)

end Go.Proofs.Ytdnbpapolckklaa.PFnBlocks
