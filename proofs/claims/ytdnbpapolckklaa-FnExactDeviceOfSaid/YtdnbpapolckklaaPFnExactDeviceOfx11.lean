-- Written by a program of this session (a changed copy of the kit's print: wip/print2). Lean checks it.
import Derived.Test.YtdnbpapolckklaaPFnExactDeviceOfx0
import Derived.Test.YtdnbpapolckklaaPFnExactDeviceOfx1
import Derived.Test.YtdnbpapolckklaaPFnExactDeviceOfx10
namespace Go.Proofs.Ytdnbpapolckklaa.PFnExactDeviceOf
open Go.RowKit Go.Proofs.YtdnbpapolckklaaW.PrintWords Go.Proofs.YtdnbpapolckklaaW.PrintLast Go.Proofs.YtdnbpapolckklaaW.PrintMore
attribute [local go_sem] max2_int min2_int max_two min_two max_three min_three max_four min_four   -- for this text's walks alone
attribute [local go_sem] Go.Proofs.Ytdnbpapolckklaa.Pad.isSome_setCell
set_option linter.unusedVariables false
set_option linter.unusedSimpArgs false

attribute [local go_sem high] eqA69
/-! ### impl_BlockOk: function 34 -/
def impl_BlockOk.l0 : Nat → List (S69) → Int → Int → Bool → List (S69) → ByteArray → Option (Bool)
 | 0, _, _, _, _, _, _ => none
 | k + 1, x19, x20, x21, x276000, x276001, x276002 => if x21 < x20 then (if 0 ≤ x21 then (if x21 < (x19.length : Int) then (if ((((rd_T69 x19 x21).f0).toList) == ([] : List UInt8) && (((rd_T69 x19 x21).f1) == 0)) = true then (impl_BlockOk.l0 k x19 x20 (wrap64 (x21 + 1)) x276000 x276001 x276002) else ((impl_NameOk.f k ((rd_T69 x19 x21).f0)).bind fun t278 => (if t278 = true then ((impl_isIno.f ((rd_T69 x19 x21).f1)).bind fun t279 => (if t279 = true then ((impl_SlotOf.f x276000 x276001 x276002 ((rd_T69 x19 x21).f0)).bind fun t280 => (if t280 = x21 then (impl_BlockOk.l0 k x19 x20 (wrap64 (x21 + 1)) x276000 x276001 x276002) else (some false))) else (some false))) else (some false)))) else (none)) else (none)) else (if (x276001.length : Int) = 4 then (some (x276002.toList == ([] : List UInt8))) else (some false))
def impl_BlockOk.f (k : Nat) (a0_0 : Bool) (l0_1 : List (S69)) (a0_2 : ByteArray) : Option (Bool) := if a0_0 = true then (impl_BlockOk.l0 k l0_1 (l0_1.length : Int) 0 a0_0 l0_1 a0_2) else (if (l0_1.length : Int) = 0 then (some (decide ((a0_2.size : Int) ≤ 16))) else (some false))
set_option maxHeartbeats 8000000 in
set_option maxRecDepth 100000 in
theorem impl_BlockOk.calls (k : Nat) (a0_0 : Bool) (A0_1 : Option Addr) (c0_1 : Nat) (l0_1 : List (S69)) (a0_2 : ByteArray) (r : Bool) (w : World) (hr0_1 : Kd.C k69 w A0_1 l0_1.length l0_1) (hc0_1 : l0_1.length ≤ c0_1) (h : impl_BlockOk.f k a0_0 l0_1 a0_2 = some r) :
  Calls Try.prog 34 #[.agg #[.bool a0_0, .slice A0_1 l0_1.length c0_1, .string a0_2]] w fun e w' => e = .returned (.bool r) ∧ Below w.heap.size w w' := by
 have hu59 := Try.underlying59
 have hu69 := Try.underlying69
 have HR0_1 := Aside0.mk hr0_1
 have HC0_1 := Aside0.mk hc0_1
 clear hr0_1 hc0_1
 have HB := Aside0.mk (Below.refl w.heap.size w)
 have H : (if a0_0 = true then (impl_BlockOk.l0 k l0_1 (l0_1.length : Int) 0 a0_0 l0_1 a0_2) else (if (l0_1.length : Int) = 0 then (some (decide ((a0_2.size : Int) ≤ 16))) else (some false))) = some r := h
 clear h
 by_cases c2 : a0_0 = true
 ·subst c2
  have H1 : (impl_BlockOk.l0 k l0_1 (l0_1.length : Int) 0 true l0_1 a0_2) = some r := by rw [if_pos rfl] at H; exact H
  clear H
  have H := H1
  clear H1
  have H' := Aside0.mk H
  clear H
  go_enter Try.func34, Try.ntmps34
  go_wp2_with (first | ((with_reducible refine gate_dst (N := 1) rfl ?_); (try (refine gate_guard (by rfl) ?_; dsimp only)); refine box_event ?hg (N := 1) ?hd (cs := #[.bool true, .slice A0_1 l0_1.length c0_1, .string a0_2]) (t := 59) ?hr ?_; (case hd => rfl); (case hg => rfl); (case hr => first | (go_simp; done) | (go_simp; rfl)); intro gb275 hg w3 hbox hb; have n0_ := Aside0.mk (below_step (qb HB.out) hb); have n1_ := Aside0.mk (hbox); have n2_ := Aside0.mk ((by rw [hg]; exact (below_size (qb HB.out)) : w.heap.size ≤ gb275)); have n3_ := Aside0.mk ((by rw [hg]; exact (below_size (qb HB.out)) : w.heap.size ≤ gb275)); clear HB; have HB := n0_; have BK275 := n1_; have GW275 := n2_; have GE275 := n3_; clear n0_ n1_ n2_ n3_; clear hb hbox hg; have hcz4_0 : w3.cell? ⟨gb275, 0, none⟩ = some (.bool true) := (blk_cell BK275.out 0).trans rfl; have hcz4_1 : w3.cell? ⟨gb275, 1, none⟩ = some (.slice A0_1 l0_1.length c0_1) := (blk_cell BK275.out 1).trans rfl; have hcz4_2 : w3.cell? ⟨gb275, 2, none⟩ = some (.string a0_2) := (blk_cell BK275.out 2).trans rfl; have hfz4_0 := blk_frozen BK275.out 0; have hfz4_1 := blk_frozen BK275.out 1; have hfz4_2 := blk_frozen BK275.out 2))
  go_loopg [21] k (fun kq v21 w' => ∃ (x21_1 : Int), v21 = .int .i64 x21_1 ∧ Aside0 (impl_BlockOk.l0 kq l0_1 (l0_1.length : Int) x21_1 true l0_1 a0_2 = some r) ∧ Aside0 (kq ≤ k) ∧ Aside0 (w'.heap[gb275]? = some (.cells #[.bool true, (.slice A0_1 l0_1.length c0_1), .string a0_2] 59 (0, 0))) ∧ Aside0 (Below w.heap.size w w'))
  case atStart => exact ⟨(0), qz, H', ⟨Nat.le_refl _⟩, ⟨qk BK275.out⟩, ⟨qb1 HB.out GE275.out⟩⟩
  case round =>
   clear H'
   try clear c2
   try clear p2
   try clear c3
   try clear hcz4_0
   try clear hcz4_1
   try clear hcz4_2
   try clear hfz4_0
   try clear hfz4_1
   try clear hfz4_2
   obtain ⟨x21_1, rfl, HA, HK1, BK275, HB⟩ := hrel
   cases gk with
   | zero => exact absurd HA.out (by simp [impl_BlockOk.l0])
   | succ k1 =>
    have H := HA.out
    clear HA
    simp only [impl_BlockOk.l0] at H
    by_cases c5 : x21_1 < (l0_1.length : Int)
    ·rw [if_pos c5] at H
     have c5b0 : decide (x21_1 < (l0_1.length : Int)) = true := decide_eq_true c5
     clear c5
     by_cases c6 : 0 ≤ x21_1
     ·rw [if_pos c6] at H
      have c6b0 : decide (0 ≤ x21_1) = true := decide_eq_true c6
      clear c6
      by_cases c7 : x21_1 < (l0_1.length : Int)
      ·rw [if_pos c7] at H
       have c7b0 : decide (x21_1 < (l0_1.length : Int)) = true := decide_eq_true c7
       clear c7
       by_cases c8 : ((((rd_T69 l0_1 x21_1).f0).toList) == ([] : List UInt8) && (((rd_T69 l0_1 x21_1).f1) == 0)) = true
       ·rw [if_pos c8] at H
        have c8b0 : ((((rd_T69 l0_1 x21_1).f0).toList) == ([] : List UInt8) && (((rd_T69 l0_1 x21_1).f1) == 0)) = true := c8
        (try (have c8b1 : decide ((((rd_T69 l0_1 x21_1).f0).toList) = ([] : List UInt8) && (((rd_T69 l0_1 x21_1).f1) == 0)) = true := by simpa using c8))
        (try (have c8b2 : ((((rd_T69 l0_1 x21_1).f0).toList) == ([] : List UInt8) && (((rd_T69 l0_1 x21_1).f1) == 0)) = true := by simpa using c8))
        (try (have c8b3 : ((((rd_T69 l0_1 x21_1).f0).toList).isEmpty && (((rd_T69 l0_1 x21_1).f1) == 0)) = true := by simpa using c8))
        clear c8
        have H' := Aside0.mk H
        clear H
        have p276 : 0 ≤ (x21_1 : Int) := qo
        have q276 : x21_1 < (l0_1.length : Int) := qo
        obtain ⟨ad276, e276, hx276_0, hx276_1⟩ := at_T69 HR0_1.out x21_1 p276 q276
        cases e276
        replace hx276_0 := qc HB.out hx276_0
        replace hx276_1 := qc HB.out hx276_1
        replace p276 := eq_true p276
        replace q276 := eq_true q276
        go_wp2_with (first | ((with_reducible refine gate_dst (N := 4) rfl ?_); (try (refine gate_guard (by rfl) ?_; dsimp only)); refine box_event ?hg (N := 4) ?hd (cs := #[.string (⟨#[]⟩ : ByteArray), .int .i64 0]) (t := 69) ?hr ?_; (case hd => rfl); (case hg => rfl); (case hr => first | (go_simp; done) | (go_simp; rfl)); intro gb277 hg w9 hbox hb; have n0_ := Aside0.mk (blk_below (g := gb275) (o := .cells #[.bool true, .slice (some ad276) l0_1.length c0_1, .string a0_2] 59 (0, 0)) (qk BK275.out) hb); have n1_ := Aside0.mk (below_step (qb1 HB.out GE275.out) hb); have n2_ := Aside0.mk (hbox); have n3_ := Aside0.mk ((by rw [hg]; exact (below_size (qb1 HB.out GE275.out)) : w.heap.size ≤ gb277)); have n4_ := Aside0.mk ((by rw [hg]; exact (below_size (qb1 HB.out GE275.out)) : w.heap.size ≤ gb277)); have n5_ := Aside0.mk ((by rw [hg]; exact Nat.ne_of_lt (blk_lt (g := gb275) (o := .cells #[.bool true, .slice (some ad276) l0_1.length c0_1, .string a0_2] 59 (0, 0)) (qk BK275.out)) : gb275 ≠ gb277)); have n6_ := Aside0.mk ((by rw [hg]; exact Nat.ne_of_gt (blk_lt (g := gb275) (o := .cells #[.bool true, .slice (some ad276) l0_1.length c0_1, .string a0_2] 59 (0, 0)) (qk BK275.out)) : gb277 ≠ gb275)); clear BK275; clear HB; have BK275 := n0_; have HB := n1_; have BK277 := n2_; have GW277 := n3_; have GE277 := n4_; have NB275_277 := n5_; have NB277_275 := n6_; clear n0_ n1_ n2_ n3_ n4_ n5_ n6_; clear hb hbox hg; have hnb10 := NB277_275.out; have hnc10 := NB275_277.out; have hcz11_0 : w9.cell? ⟨gb277, 0, none⟩ = some (.string (⟨#[]⟩ : ByteArray)) := (blk_cell BK277.out 0).trans rfl; have hcz11_1 : w9.cell? ⟨gb277, 1, none⟩ = some (.int .i64 0) := (blk_cell BK277.out 1).trans rfl; have hfz11_0 := blk_frozen BK277.out 0; have hfz11_1 := blk_frozen BK277.out 1))
        go_roundg k1
        case measure => have := HK1.out; omega
        case rel => exact ⟨(wrap64 (x21_1 + 1)), qz, H', ⟨by have := HK1.out; omega⟩, ⟨by refine qK ?_; refine blk_far ?_ NB275_277.out _; refine qK ?_; refine blk_far ?_ NB275_277.out _; refine qK ?_; exact BK275.out⟩, ⟨qb2 HB.out GE275.out GE277.out⟩⟩
       ·rw [if_neg c8] at H
        have c8b0 : ((((rd_T69 l0_1 x21_1).f0).toList) == ([] : List UInt8) && (((rd_T69 l0_1 x21_1).f1) == 0)) = false := by simpa using c8
        (try (have c8b1 : decide ((((rd_T69 l0_1 x21_1).f0).toList) = ([] : List UInt8) && (((rd_T69 l0_1 x21_1).f1) == 0)) = false := by simpa using c8))
        (try (have c8b2 : ((((rd_T69 l0_1 x21_1).f0).toList) == ([] : List UInt8) && (((rd_T69 l0_1 x21_1).f1) == 0)) = false := by simpa using c8))
        (try (have c8b3 : ¬ ((((rd_T69 l0_1 x21_1).f0).toList) = ([] : List UInt8) && (((rd_T69 l0_1 x21_1).f1) == 0)) := by simpa using c8))
        (try (have c8b4 : ((((rd_T69 l0_1 x21_1).f0).toList).isEmpty && (((rd_T69 l0_1 x21_1).f1) == 0)) = false := by simpa using c8))
        clear c8
        replace H := Option.bind_eq_some_iff.mp H
        obtain ⟨t278, A120, H⟩ := H
        replace H : (if t278 = true then ((impl_isIno.f ((rd_T69 l0_1 x21_1).f1)).bind fun t279 => (if t279 = true then ((impl_SlotOf.f true l0_1 a0_2 ((rd_T69 l0_1 x21_1).f0)).bind fun t280 => (if t280 = x21_1 then (impl_BlockOk.l0 k1 l0_1 (l0_1.length : Int) (wrap64 (x21_1 + 1)) true l0_1 a0_2) else (some false))) else (some false))) else (some false)) = some r := H
        have A12 := Aside0.mk A120
        clear A120
        by_cases c13 : t278 = true
        ·subst c13
         have H1 : ((impl_isIno.f ((rd_T69 l0_1 x21_1).f1)).bind fun t279 => (if t279 = true then ((impl_SlotOf.f true l0_1 a0_2 ((rd_T69 l0_1 x21_1).f0)).bind fun t280 => (if t280 = x21_1 then (impl_BlockOk.l0 k1 l0_1 (l0_1.length : Int) (wrap64 (x21_1 + 1)) true l0_1 a0_2) else (some false))) else (some false))) = some r := by rw [if_pos rfl] at H; exact H
         clear H
         have H := H1
         clear H1
         replace H := Option.bind_eq_some_iff.mp H
         obtain ⟨t279, A140, H⟩ := H
         replace H : (if t279 = true then ((impl_SlotOf.f true l0_1 a0_2 ((rd_T69 l0_1 x21_1).f0)).bind fun t280 => (if t280 = x21_1 then (impl_BlockOk.l0 k1 l0_1 (l0_1.length : Int) (wrap64 (x21_1 + 1)) true l0_1 a0_2) else (some false))) else (some false)) = some r := H
         have A14 := Aside0.mk A140
         clear A140
         by_cases c15 : t279 = true
         ·subst c15
          have H1 : ((impl_SlotOf.f true l0_1 a0_2 ((rd_T69 l0_1 x21_1).f0)).bind fun t280 => (if t280 = x21_1 then (impl_BlockOk.l0 k1 l0_1 (l0_1.length : Int) (wrap64 (x21_1 + 1)) true l0_1 a0_2) else (some false))) = some r := by rw [if_pos rfl] at H; exact H
          clear H
          have H := H1
          clear H1
          replace H := Option.bind_eq_some_iff.mp H
          obtain ⟨t280, A160, H⟩ := H
          replace H : (if t280 = x21_1 then (impl_BlockOk.l0 k1 l0_1 (l0_1.length : Int) (wrap64 (x21_1 + 1)) true l0_1 a0_2) else (some false)) = some r := H
          have A16 := Aside0.mk A160
          clear A160
          by_cases c17 : t280 = x21_1
          ·rw [if_pos c17] at H
           have c17b0 : (t280 == x21_1) = true := beq_iff_eq.mpr c17
           have c17b1 : (t280 != x21_1) = false := bne_eq_false_iff_eq.mpr c17
           clear c17
           have H' := Aside0.mk H
           clear H
           have p276 : 0 ≤ (x21_1 : Int) := qo
           have q276 : x21_1 < (l0_1.length : Int) := qo
           obtain ⟨ad276, e276, hx276_0, hx276_1⟩ := at_T69 HR0_1.out x21_1 p276 q276
           cases e276
           replace hx276_0 := qc HB.out hx276_0
           replace hx276_1 := qc HB.out hx276_1
           replace p276 := eq_true p276
           replace q276 := eq_true q276
           go_wp2_with (first | ((with_reducible refine gate_dst (N := 4) rfl ?_); (try (refine gate_guard (by rfl) ?_; dsimp only)); refine box_event ?hg (N := 4) ?hd (cs := #[.string (⟨#[]⟩ : ByteArray), .int .i64 0]) (t := 69) ?hr ?_; (case hd => rfl); (case hg => rfl); (case hr => first | (go_simp; done) | (go_simp; rfl)); intro gb277 hg w18 hbox hb; have n0_ := Aside0.mk (blk_below (g := gb275) (o := .cells #[.bool true, .slice (some ad276) l0_1.length c0_1, .string a0_2] 59 (0, 0)) (qk BK275.out) hb); have n1_ := Aside0.mk (below_step (qb1 HB.out GE275.out) hb); have n2_ := Aside0.mk (hbox); have n3_ := Aside0.mk ((by rw [hg]; exact (below_size (qb1 HB.out GE275.out)) : w.heap.size ≤ gb277)); have n4_ := Aside0.mk ((by rw [hg]; exact (below_size (qb1 HB.out GE275.out)) : w.heap.size ≤ gb277)); have n5_ := Aside0.mk ((by rw [hg]; exact Nat.ne_of_lt (blk_lt (g := gb275) (o := .cells #[.bool true, .slice (some ad276) l0_1.length c0_1, .string a0_2] 59 (0, 0)) (qk BK275.out)) : gb275 ≠ gb277)); have n6_ := Aside0.mk ((by rw [hg]; exact Nat.ne_of_gt (blk_lt (g := gb275) (o := .cells #[.bool true, .slice (some ad276) l0_1.length c0_1, .string a0_2] 59 (0, 0)) (qk BK275.out)) : gb277 ≠ gb275)); clear BK275; clear HB; have BK275 := n0_; have HB := n1_; have BK277 := n2_; have GW277 := n3_; have GE277 := n4_; have NB275_277 := n5_; have NB277_275 := n6_; clear n0_ n1_ n2_ n3_ n4_ n5_ n6_; clear hb hbox hg; have hnb19 := NB277_275.out; have hnc19 := NB275_277.out; have hcz20_0 : w18.cell? ⟨gb277, 0, none⟩ = some (.string (⟨#[]⟩ : ByteArray)) := (blk_cell BK277.out 0).trans rfl; have hcz20_1 : w18.cell? ⟨gb277, 1, none⟩ = some (.int .i64 0) := (blk_cell BK277.out 1).trans rfl; have hfz20_0 := blk_frozen BK277.out 0; have hfz20_1 := blk_frozen BK277.out 1) | ((with_reducible refine gate_callee (f := 37) rfl ?_); refine goesL_ (some 31) rfl rfl Try.func37 (by kernel_rfl) rfl #[.string ((rd_T69 l0_1 x21_1).f0)] rfl qm ?_; (with_reducible refine (impl_NameOk.calls k1 ((rd_T69 l0_1 x21_1).f0) true _ A12.out).mono ?_); rintro e w' ⟨rfl, ⟨nd, rfl⟩⟩; refine ⟨_, rfl, ?_⟩) | (go_at_call 94; (with_reducible refine (impl_isIno.calls ((rd_T69 l0_1 x21_1).f1) true _ A14.out).mono ?_); rintro e w' ⟨rfl, ⟨nd, rfl⟩⟩; have hcz21_0 : w18.cell? ⟨gb275, 0, none⟩ = some (.bool true) := (blk_cell BK275.out 0).trans rfl; have hcz21_1 : w18.cell? ⟨gb275, 1, none⟩ = some (.slice (some ad276) l0_1.length c0_1) := (blk_cell BK275.out 1).trans rfl; have hcz21_2 : w18.cell? ⟨gb275, 2, none⟩ = some (.string a0_2) := (blk_cell BK275.out 2).trans rfl; have hfz21_0 := blk_frozen BK275.out 0; have hfz21_1 := blk_frozen BK275.out 1; have hfz21_2 := blk_frozen BK275.out 2) | (go_at_call 31; (with_reducible refine (impl_SlotOf.calls true _ _ l0_1 a0_2 ((rd_T69 l0_1 x21_1).f0) t280 _ ?side1 ?side2 A16.out).mono ?_); (case side1 => exact Kd.C_below HR0_1.out (qb2 HB.out GE275.out GE277.out)); (case side2 => exact HC0_1.out); rintro e w22 ⟨rfl, hb⟩; have n0_ := Aside0.mk (blk_below (g := gb275) (o := .cells #[.bool true, .slice (some ad276) l0_1.length c0_1, .string a0_2] 59 (0, 0)) (by refine qK ?_; refine blk_far ?_ NB275_277.out _; refine qK ?_; refine blk_far ?_ NB275_277.out _; refine qK ?_; exact BK275.out) hb); have n1_ := Aside0.mk (blk_below (g := gb277) (o := .cells #[.string ((rd_T69 l0_1 x21_1).f0), .int .i64 ((rd_T69 l0_1 x21_1).f1)] 69 (0, 0)) (by refine qK ?_; refine blk_put (cs := #[.string ((rd_T69 l0_1 x21_1).f0), .int .i64 0]) ?_ 1 _ rfl; refine qK ?_; refine blk_put (cs := #[.string (⟨#[]⟩ : ByteArray), .int .i64 0]) ?_ 0 _ rfl; refine qK ?_; exact BK277.out) hb); have n2_ := Aside0.mk (below_step (qb2 HB.out GE275.out GE277.out) hb); clear BK275; clear BK277; clear HB; have BK275 := n0_; have BK277 := n1_; have HB := n2_; clear n0_ n1_ n2_; (try clear hb); (try clear hb2); (try clear hk); (try clear hi)))
           go_roundg k1
           case measure => have := HK1.out; omega
           case rel => exact ⟨(wrap64 (x21_1 + 1)), qz, H', ⟨by have := HK1.out; omega⟩, ⟨qk BK275.out⟩, ⟨qb2 HB.out GE275.out GE277.out⟩⟩
          ·rw [if_neg c17] at H
           have c17b0 : (t280 == x21_1) = false := beq_eq_false_iff_ne.mpr c17
           have c17b1 : (t280 != x21_1) = true := bne_iff_ne.mpr c17
           obtain rfl := Option.some.inj H
           have p276 : 0 ≤ (x21_1 : Int) := qo
           have q276 : x21_1 < (l0_1.length : Int) := qo
           obtain ⟨ad276, e276, hx276_0, hx276_1⟩ := at_T69 HR0_1.out x21_1 p276 q276
           cases e276
           replace hx276_0 := qc HB.out hx276_0
           replace hx276_1 := qc HB.out hx276_1
           replace p276 := eq_true p276
           replace q276 := eq_true q276
           go_wp2_with (first | ((with_reducible refine gate_dst (N := 4) rfl ?_); (try (refine gate_guard (by rfl) ?_; dsimp only)); refine box_event ?hg (N := 4) ?hd (cs := #[.string (⟨#[]⟩ : ByteArray), .int .i64 0]) (t := 69) ?hr ?_; (case hd => rfl); (case hg => rfl); (case hr => first | (go_simp; done) | (go_simp; rfl)); intro gb277 hg w23 hbox hb; have n0_ := Aside0.mk (blk_below (g := gb275) (o := .cells #[.bool true, .slice (some ad276) l0_1.length c0_1, .string a0_2] 59 (0, 0)) (qk BK275.out) hb); have n1_ := Aside0.mk (below_step (qb1 HB.out GE275.out) hb); have n2_ := Aside0.mk (hbox); have n3_ := Aside0.mk ((by rw [hg]; exact (below_size (qb1 HB.out GE275.out)) : w.heap.size ≤ gb277)); have n4_ := Aside0.mk ((by rw [hg]; exact (below_size (qb1 HB.out GE275.out)) : w.heap.size ≤ gb277)); have n5_ := Aside0.mk ((by rw [hg]; exact Nat.ne_of_lt (blk_lt (g := gb275) (o := .cells #[.bool true, .slice (some ad276) l0_1.length c0_1, .string a0_2] 59 (0, 0)) (qk BK275.out)) : gb275 ≠ gb277)); have n6_ := Aside0.mk ((by rw [hg]; exact Nat.ne_of_gt (blk_lt (g := gb275) (o := .cells #[.bool true, .slice (some ad276) l0_1.length c0_1, .string a0_2] 59 (0, 0)) (qk BK275.out)) : gb277 ≠ gb275)); clear BK275; clear HB; have BK275 := n0_; have HB := n1_; have BK277 := n2_; have GW277 := n3_; have GE277 := n4_; have NB275_277 := n5_; have NB277_275 := n6_; clear n0_ n1_ n2_ n3_ n4_ n5_ n6_; clear hb hbox hg; have hnb24 := NB277_275.out; have hnc24 := NB275_277.out; have hcz25_0 : w23.cell? ⟨gb277, 0, none⟩ = some (.string (⟨#[]⟩ : ByteArray)) := (blk_cell BK277.out 0).trans rfl; have hcz25_1 : w23.cell? ⟨gb277, 1, none⟩ = some (.int .i64 0) := (blk_cell BK277.out 1).trans rfl; have hfz25_0 := blk_frozen BK277.out 0; have hfz25_1 := blk_frozen BK277.out 1) | ((with_reducible refine gate_callee (f := 37) rfl ?_); refine goesL_ (some 31) rfl rfl Try.func37 (by kernel_rfl) rfl #[.string ((rd_T69 l0_1 x21_1).f0)] rfl qm ?_; (with_reducible refine (impl_NameOk.calls k1 ((rd_T69 l0_1 x21_1).f0) true _ A12.out).mono ?_); rintro e w' ⟨rfl, ⟨nd, rfl⟩⟩; refine ⟨_, rfl, ?_⟩) | (go_at_call 94; (with_reducible refine (impl_isIno.calls ((rd_T69 l0_1 x21_1).f1) true _ A14.out).mono ?_); rintro e w' ⟨rfl, ⟨nd, rfl⟩⟩; have hcz26_0 : w23.cell? ⟨gb275, 0, none⟩ = some (.bool true) := (blk_cell BK275.out 0).trans rfl; have hcz26_1 : w23.cell? ⟨gb275, 1, none⟩ = some (.slice (some ad276) l0_1.length c0_1) := (blk_cell BK275.out 1).trans rfl; have hcz26_2 : w23.cell? ⟨gb275, 2, none⟩ = some (.string a0_2) := (blk_cell BK275.out 2).trans rfl; have hfz26_0 := blk_frozen BK275.out 0; have hfz26_1 := blk_frozen BK275.out 1; have hfz26_2 := blk_frozen BK275.out 2) | (go_at_call 31; (with_reducible refine (impl_SlotOf.calls true _ _ l0_1 a0_2 ((rd_T69 l0_1 x21_1).f0) t280 _ ?side1 ?side2 A16.out).mono ?_); (case side1 => exact Kd.C_below HR0_1.out (qb2 HB.out GE275.out GE277.out)); (case side2 => exact HC0_1.out); rintro e w27 ⟨rfl, hb⟩; have n0_ := Aside0.mk (blk_below (g := gb275) (o := .cells #[.bool true, .slice (some ad276) l0_1.length c0_1, .string a0_2] 59 (0, 0)) (by refine qK ?_; refine blk_far ?_ NB275_277.out _; refine qK ?_; refine blk_far ?_ NB275_277.out _; refine qK ?_; exact BK275.out) hb); have n1_ := Aside0.mk (blk_below (g := gb277) (o := .cells #[.string ((rd_T69 l0_1 x21_1).f0), .int .i64 ((rd_T69 l0_1 x21_1).f1)] 69 (0, 0)) (by refine qK ?_; refine blk_put (cs := #[.string ((rd_T69 l0_1 x21_1).f0), .int .i64 0]) ?_ 1 _ rfl; refine qK ?_; refine blk_put (cs := #[.string (⟨#[]⟩ : ByteArray), .int .i64 0]) ?_ 0 _ rfl; refine qK ?_; exact BK277.out) hb); have n2_ := Aside0.mk (below_step (qb2 HB.out GE275.out GE277.out) hb); clear BK275; clear BK277; clear HB; have BK275 := n0_; have BK277 := n1_; have HB := n2_; clear n0_ n1_ n2_; (try clear hb); (try clear hb2); (try clear hk); (try clear hi)))
           go_ret
           exact ⟨qe, qb2 HB.out GE275.out GE277.out⟩
         ·replace c15 := Bool.eq_false_iff.mpr c15
          subst c15
          have H1 : (some false) = some r := by rw [if_neg (show ¬ (false = true) by decide)] at H; exact H
          clear H
          have H := H1
          clear H1
          obtain rfl := Option.some.inj H
          have p276 : 0 ≤ (x21_1 : Int) := qo
          have q276 : x21_1 < (l0_1.length : Int) := qo
          obtain ⟨ad276, e276, hx276_0, hx276_1⟩ := at_T69 HR0_1.out x21_1 p276 q276
          cases e276
          replace hx276_0 := qc HB.out hx276_0
          replace hx276_1 := qc HB.out hx276_1
          replace p276 := eq_true p276
          replace q276 := eq_true q276
          go_wp2_with (first | ((with_reducible refine gate_dst (N := 4) rfl ?_); (try (refine gate_guard (by rfl) ?_; dsimp only)); refine box_event ?hg (N := 4) ?hd (cs := #[.string (⟨#[]⟩ : ByteArray), .int .i64 0]) (t := 69) ?hr ?_; (case hd => rfl); (case hg => rfl); (case hr => first | (go_simp; done) | (go_simp; rfl)); intro gb277 hg w28 hbox hb; have n0_ := Aside0.mk (blk_below (g := gb275) (o := .cells #[.bool true, .slice (some ad276) l0_1.length c0_1, .string a0_2] 59 (0, 0)) (qk BK275.out) hb); have n1_ := Aside0.mk (below_step (qb1 HB.out GE275.out) hb); have n2_ := Aside0.mk (hbox); have n3_ := Aside0.mk ((by rw [hg]; exact (below_size (qb1 HB.out GE275.out)) : w.heap.size ≤ gb277)); have n4_ := Aside0.mk ((by rw [hg]; exact (below_size (qb1 HB.out GE275.out)) : w.heap.size ≤ gb277)); have n5_ := Aside0.mk ((by rw [hg]; exact Nat.ne_of_lt (blk_lt (g := gb275) (o := .cells #[.bool true, .slice (some ad276) l0_1.length c0_1, .string a0_2] 59 (0, 0)) (qk BK275.out)) : gb275 ≠ gb277)); have n6_ := Aside0.mk ((by rw [hg]; exact Nat.ne_of_gt (blk_lt (g := gb275) (o := .cells #[.bool true, .slice (some ad276) l0_1.length c0_1, .string a0_2] 59 (0, 0)) (qk BK275.out)) : gb277 ≠ gb275)); clear BK275; clear HB; have BK275 := n0_; have HB := n1_; have BK277 := n2_; have GW277 := n3_; have GE277 := n4_; have NB275_277 := n5_; have NB277_275 := n6_; clear n0_ n1_ n2_ n3_ n4_ n5_ n6_; clear hb hbox hg; have hnb29 := NB277_275.out; have hnc29 := NB275_277.out; have hcz30_0 : w28.cell? ⟨gb277, 0, none⟩ = some (.string (⟨#[]⟩ : ByteArray)) := (blk_cell BK277.out 0).trans rfl; have hcz30_1 : w28.cell? ⟨gb277, 1, none⟩ = some (.int .i64 0) := (blk_cell BK277.out 1).trans rfl; have hfz30_0 := blk_frozen BK277.out 0; have hfz30_1 := blk_frozen BK277.out 1) | ((with_reducible refine gate_callee (f := 37) rfl ?_); refine goesL_ (some 31) rfl rfl Try.func37 (by kernel_rfl) rfl #[.string ((rd_T69 l0_1 x21_1).f0)] rfl qm ?_; (with_reducible refine (impl_NameOk.calls k1 ((rd_T69 l0_1 x21_1).f0) true _ A12.out).mono ?_); rintro e w' ⟨rfl, ⟨nd, rfl⟩⟩; refine ⟨_, rfl, ?_⟩) | (go_at_call 94; (with_reducible refine (impl_isIno.calls ((rd_T69 l0_1 x21_1).f1) false _ A14.out).mono ?_); rintro e w' ⟨rfl, ⟨nd, rfl⟩⟩))
          go_ret
          exact ⟨qe, qb2 HB.out GE275.out GE277.out⟩
        ·replace c13 := Bool.eq_false_iff.mpr c13
         subst c13
         have H1 : (some false) = some r := by rw [if_neg (show ¬ (false = true) by decide)] at H; exact H
         clear H
         have H := H1
         clear H1
         obtain rfl := Option.some.inj H
         have p276 : 0 ≤ (x21_1 : Int) := qo
         have q276 : x21_1 < (l0_1.length : Int) := qo
         obtain ⟨ad276, e276, hx276_0, hx276_1⟩ := at_T69 HR0_1.out x21_1 p276 q276
         cases e276
         replace hx276_0 := qc HB.out hx276_0
         replace hx276_1 := qc HB.out hx276_1
         replace p276 := eq_true p276
         replace q276 := eq_true q276
         go_wp2_with (first | ((with_reducible refine gate_dst (N := 4) rfl ?_); (try (refine gate_guard (by rfl) ?_; dsimp only)); refine box_event ?hg (N := 4) ?hd (cs := #[.string (⟨#[]⟩ : ByteArray), .int .i64 0]) (t := 69) ?hr ?_; (case hd => rfl); (case hg => rfl); (case hr => first | (go_simp; done) | (go_simp; rfl)); intro gb277 hg w31 hbox hb; have n0_ := Aside0.mk (blk_below (g := gb275) (o := .cells #[.bool true, .slice (some ad276) l0_1.length c0_1, .string a0_2] 59 (0, 0)) (qk BK275.out) hb); have n1_ := Aside0.mk (below_step (qb1 HB.out GE275.out) hb); have n2_ := Aside0.mk (hbox); have n3_ := Aside0.mk ((by rw [hg]; exact (below_size (qb1 HB.out GE275.out)) : w.heap.size ≤ gb277)); have n4_ := Aside0.mk ((by rw [hg]; exact (below_size (qb1 HB.out GE275.out)) : w.heap.size ≤ gb277)); have n5_ := Aside0.mk ((by rw [hg]; exact Nat.ne_of_lt (blk_lt (g := gb275) (o := .cells #[.bool true, .slice (some ad276) l0_1.length c0_1, .string a0_2] 59 (0, 0)) (qk BK275.out)) : gb275 ≠ gb277)); have n6_ := Aside0.mk ((by rw [hg]; exact Nat.ne_of_gt (blk_lt (g := gb275) (o := .cells #[.bool true, .slice (some ad276) l0_1.length c0_1, .string a0_2] 59 (0, 0)) (qk BK275.out)) : gb277 ≠ gb275)); clear BK275; clear HB; have BK275 := n0_; have HB := n1_; have BK277 := n2_; have GW277 := n3_; have GE277 := n4_; have NB275_277 := n5_; have NB277_275 := n6_; clear n0_ n1_ n2_ n3_ n4_ n5_ n6_; clear hb hbox hg; have hnb32 := NB277_275.out; have hnc32 := NB275_277.out; have hcz33_0 : w31.cell? ⟨gb277, 0, none⟩ = some (.string (⟨#[]⟩ : ByteArray)) := (blk_cell BK277.out 0).trans rfl; have hcz33_1 : w31.cell? ⟨gb277, 1, none⟩ = some (.int .i64 0) := (blk_cell BK277.out 1).trans rfl; have hfz33_0 := blk_frozen BK277.out 0; have hfz33_1 := blk_frozen BK277.out 1) | ((with_reducible refine gate_callee (f := 37) rfl ?_); refine goesL_ (some 31) rfl rfl Try.func37 (by kernel_rfl) rfl #[.string ((rd_T69 l0_1 x21_1).f0)] rfl qm ?_; (with_reducible refine (impl_NameOk.calls k1 ((rd_T69 l0_1 x21_1).f0) false _ A12.out).mono ?_); rintro e w' ⟨rfl, ⟨nd, rfl⟩⟩; refine ⟨_, rfl, ?_⟩))
         go_ret
         exact ⟨qe, qb2 HB.out GE275.out GE277.out⟩
      ·rw [if_neg c7] at H
       exact absurd H (by simp)
     ·rw [if_neg c6] at H
      exact absurd H (by simp)
    ·rw [if_neg c5] at H
     have c5b0 : decide (x21_1 < (l0_1.length : Int)) = false := decide_eq_false c5
     clear c5
     by_cases c34 : (l0_1.length : Int) = 4
     ·rw [if_pos c34] at H
      have c34b0 : ((l0_1.length : Int) == 4) = true := beq_iff_eq.mpr c34
      have c34b1 : ((l0_1.length : Int) != 4) = false := bne_eq_false_iff_eq.mpr c34
      clear c34
      obtain rfl := Option.some.inj H
      have hcz35_0 : wr.cell? ⟨gb275, 0, none⟩ = some (.bool true) := (blk_cell BK275.out 0).trans rfl
      have hcz35_1 : wr.cell? ⟨gb275, 1, none⟩ = some (.slice A0_1 l0_1.length c0_1) := (blk_cell BK275.out 1).trans rfl
      have hcz35_2 : wr.cell? ⟨gb275, 2, none⟩ = some (.string a0_2) := (blk_cell BK275.out 2).trans rfl
      have hfz35_0 := blk_frozen BK275.out 0
      have hfz35_1 := blk_frozen BK275.out 1
      have hfz35_2 := blk_frozen BK275.out 2
      go_wp2
      go_ret
      exact ⟨qe, qb1 HB.out GE275.out⟩
     ·rw [if_neg c34] at H
      have c34b0 : ((l0_1.length : Int) == 4) = false := beq_eq_false_iff_ne.mpr c34
      have c34b1 : ((l0_1.length : Int) != 4) = true := bne_iff_ne.mpr c34
      obtain rfl := Option.some.inj H
      have hcz36_0 : wr.cell? ⟨gb275, 0, none⟩ = some (.bool true) := (blk_cell BK275.out 0).trans rfl
      have hcz36_1 : wr.cell? ⟨gb275, 1, none⟩ = some (.slice A0_1 l0_1.length c0_1) := (blk_cell BK275.out 1).trans rfl
      have hcz36_2 : wr.cell? ⟨gb275, 2, none⟩ = some (.string a0_2) := (blk_cell BK275.out 2).trans rfl
      have hfz36_0 := blk_frozen BK275.out 0
      have hfz36_1 := blk_frozen BK275.out 1
      have hfz36_2 := blk_frozen BK275.out 2
      go_wp2
      go_ret
      exact ⟨qe, qb1 HB.out GE275.out⟩
 ·replace c2 := Bool.eq_false_iff.mpr c2
  subst c2
  have H1 : (if (l0_1.length : Int) = 0 then (some (decide ((a0_2.size : Int) ≤ 16))) else (some false)) = some r := by rw [if_neg (show ¬ (false = true) by decide)] at H; exact H
  clear H
  have H := H1
  clear H1
  by_cases c37 : (l0_1.length : Int) = 0
  ·rw [if_pos c37] at H
   have c37b0 : ((l0_1.length : Int) == 0) = true := beq_iff_eq.mpr c37
   have c37b1 : ((l0_1.length : Int) != 0) = false := bne_eq_false_iff_eq.mpr c37
   clear c37
   obtain rfl := Option.some.inj H
   go_enter Try.func34, Try.ntmps34
   go_wp2_with (first | ((with_reducible refine gate_dst (N := 1) rfl ?_); (try (refine gate_guard (by rfl) ?_; dsimp only)); refine box_event ?hg (N := 1) ?hd (cs := #[.bool false, .slice A0_1 l0_1.length c0_1, .string a0_2]) (t := 59) ?hr ?_; (case hd => rfl); (case hg => rfl); (case hr => first | (go_simp; done) | (go_simp; rfl)); intro gb275 hg w38 hbox hb; have n0_ := Aside0.mk (below_step (qb HB.out) hb); have n1_ := Aside0.mk (hbox); have n2_ := Aside0.mk ((by rw [hg]; exact (below_size (qb HB.out)) : w.heap.size ≤ gb275)); have n3_ := Aside0.mk ((by rw [hg]; exact (below_size (qb HB.out)) : w.heap.size ≤ gb275)); clear HB; have HB := n0_; have BK275 := n1_; have GW275 := n2_; have GE275 := n3_; clear n0_ n1_ n2_ n3_; clear hb hbox hg; have hcz39_0 : w38.cell? ⟨gb275, 0, none⟩ = some (.bool false) := (blk_cell BK275.out 0).trans rfl; have hcz39_1 : w38.cell? ⟨gb275, 1, none⟩ = some (.slice A0_1 l0_1.length c0_1) := (blk_cell BK275.out 1).trans rfl; have hcz39_2 : w38.cell? ⟨gb275, 2, none⟩ = some (.string a0_2) := (blk_cell BK275.out 2).trans rfl; have hfz39_0 := blk_frozen BK275.out 0; have hfz39_1 := blk_frozen BK275.out 1; have hfz39_2 := blk_frozen BK275.out 2))
   go_ret
   exact ⟨qe, qb1 HB.out GE275.out⟩
  ·rw [if_neg c37] at H
   have c37b0 : ((l0_1.length : Int) == 0) = false := beq_eq_false_iff_ne.mpr c37
   have c37b1 : ((l0_1.length : Int) != 0) = true := bne_iff_ne.mpr c37
   have c37b2 : ¬ (l0_1 = []) := fun h_ => c37 (by rw [h_]; rfl)
   obtain rfl := Option.some.inj H
   go_enter Try.func34, Try.ntmps34
   go_wp2_with (first | ((with_reducible refine gate_dst (N := 1) rfl ?_); (try (refine gate_guard (by rfl) ?_; dsimp only)); refine box_event ?hg (N := 1) ?hd (cs := #[.bool false, .slice A0_1 l0_1.length c0_1, .string a0_2]) (t := 59) ?hr ?_; (case hd => rfl); (case hg => rfl); (case hr => first | (go_simp; done) | (go_simp; rfl)); intro gb275 hg w40 hbox hb; have n0_ := Aside0.mk (below_step (qb HB.out) hb); have n1_ := Aside0.mk (hbox); have n2_ := Aside0.mk ((by rw [hg]; exact (below_size (qb HB.out)) : w.heap.size ≤ gb275)); have n3_ := Aside0.mk ((by rw [hg]; exact (below_size (qb HB.out)) : w.heap.size ≤ gb275)); clear HB; have HB := n0_; have BK275 := n1_; have GW275 := n2_; have GE275 := n3_; clear n0_ n1_ n2_ n3_; clear hb hbox hg; have hcz41_0 : w40.cell? ⟨gb275, 0, none⟩ = some (.bool false) := (blk_cell BK275.out 0).trans rfl; have hcz41_1 : w40.cell? ⟨gb275, 1, none⟩ = some (.slice A0_1 l0_1.length c0_1) := (blk_cell BK275.out 1).trans rfl; have hcz41_2 : w40.cell? ⟨gb275, 2, none⟩ = some (.string a0_2) := (blk_cell BK275.out 2).trans rfl; have hfz41_0 := blk_frozen BK275.out 0; have hfz41_1 := blk_frozen BK275.out 1; have hfz41_2 := blk_frozen BK275.out 2))
   go_ret
   exact ⟨qe, qb1 HB.out GE275.out⟩

/-! ### impl_InodeOk: function 119 -/
def impl_InodeOk.l0 : Nat → List Int → Int → Int → Int → Int → List Int → Option (Bool)
 | 0, _, _, _, _, _, _ => none
 | k + 1, x6, x7, x8, x282000, x282001, x282002 => if x8 < x7 then (if 0 ≤ x8 then (if x8 < (x6.length : Int) then ((impl_within.f (rd x6 x8) 0 16).bind fun t283 => (if t283 = true then (if (rd x6 x8) = 0 then (impl_InodeOk.l0 k x6 x7 (wrap64 (x8 + 1)) x282000 x282001 x282002) else (if x282000 = 0 then (some false) else (impl_InodeOk.l0 k x6 x7 (wrap64 (x8 + 1)) x282000 x282001 x282002))) else (some false))) else (none)) else (none)) else ((impl_within.f x282000 0 2).bind fun t284 => (if t284 = true then ((impl_within.f x282001 0 200).bind fun t285 => (if t285 = true then (if (x282002.length : Int) = 2 then (if x282000 = 0 then (some (x282001 == 0)) else (some true)) else (some false)) else (some false))) else (some false)))
def impl_InodeOk.f (k : Nat) (a0_0 : Int) (a0_1 : Int) (l0_2 : List Int) : Option (Bool) := impl_InodeOk.l0 k l0_2 (l0_2.length : Int) 0 a0_0 a0_1 l0_2
set_option maxHeartbeats 8000000 in
set_option maxRecDepth 100000 in
theorem impl_InodeOk.calls (k : Nat) (a0_0 : Int) (a0_1 : Int) (A0_2 : Option Addr) (c0_2 : Nat) (l0_2 : List Int) (r : Bool) (w : World) (hr0_2 : Kd.C (Kd.int .i64) w A0_2 l0_2.length l0_2) (hc0_2 : l0_2.length ≤ c0_2) (h : impl_InodeOk.f k a0_0 a0_1 l0_2 = some r) :
  Calls Try.prog 119 #[.agg #[.int .i64 a0_0, .int .i64 a0_1, .slice A0_2 l0_2.length c0_2]] w fun e w' => e = .returned (.bool r) ∧ Below w.heap.size w w' := by
 have hu105 := Try.underlying105
 have HR0_2 := Aside0.mk hr0_2
 have HC0_2 := Aside0.mk hc0_2
 clear hr0_2 hc0_2
 have HB := Aside0.mk (Below.refl w.heap.size w)
 have H : (impl_InodeOk.l0 k l0_2 (l0_2.length : Int) 0 a0_0 a0_1 l0_2) = some r := h
 clear h
 have H' := Aside0.mk H
 clear H
 go_enter Try.func119, Try.ntmps119
 go_wp2_with (first | ((with_reducible refine gate_dst (N := 1) rfl ?_); (try (refine gate_guard (by rfl) ?_; dsimp only)); refine box_event ?hg (N := 1) ?hd (cs := #[.int .i64 a0_0, .int .i64 a0_1, .slice A0_2 l0_2.length c0_2]) (t := 105) ?hr ?_; (case hd => rfl); (case hg => rfl); (case hr => first | (go_simp; done) | (go_simp; rfl)); intro gb281 hg w2 hbox hb; have n0_ := Aside0.mk (below_step (qb HB.out) hb); have n1_ := Aside0.mk (hbox); have n2_ := Aside0.mk ((by rw [hg]; exact (below_size (qb HB.out)) : w.heap.size ≤ gb281)); have n3_ := Aside0.mk ((by rw [hg]; exact (below_size (qb HB.out)) : w.heap.size ≤ gb281)); clear HB; have HB := n0_; have BK281 := n1_; have GW281 := n2_; have GE281 := n3_; clear n0_ n1_ n2_ n3_; clear hb hbox hg; have hcz3_0 : w2.cell? ⟨gb281, 0, none⟩ = some (.int .i64 a0_0) := (blk_cell BK281.out 0).trans rfl; have hcz3_1 : w2.cell? ⟨gb281, 1, none⟩ = some (.int .i64 a0_1) := (blk_cell BK281.out 1).trans rfl; have hcz3_2 : w2.cell? ⟨gb281, 2, none⟩ = some (.slice A0_2 l0_2.length c0_2) := (blk_cell BK281.out 2).trans rfl; have hfz3_0 := blk_frozen BK281.out 0; have hfz3_1 := blk_frozen BK281.out 1; have hfz3_2 := blk_frozen BK281.out 2))
 go_loopg [8] k (fun kq v8 w' => ∃ (x8_1 : Int), v8 = .int .i64 x8_1 ∧ Aside0 (impl_InodeOk.l0 kq l0_2 (l0_2.length : Int) x8_1 a0_0 a0_1 l0_2 = some r) ∧ Aside0 (kq ≤ k) ∧ Aside0 (w'.heap[gb281]? = some (.cells #[.int .i64 a0_0, .int .i64 a0_1, (.slice A0_2 l0_2.length c0_2)] 105 (0, 0))) ∧ Aside0 (Below w.heap.size w w'))
 case atStart => exact ⟨(0), qz, H', ⟨Nat.le_refl _⟩, ⟨qk BK281.out⟩, ⟨qb1 HB.out GE281.out⟩⟩
 case round =>
  clear H'
  try clear c1
  try clear p2
  try clear hcz3_0
  try clear hcz3_1
  try clear hcz3_2
  try clear hfz3_0
  try clear hfz3_1
  try clear hfz3_2
  obtain ⟨x8_1, rfl, HA, HK1, BK281, HB⟩ := hrel
  cases gk with
  | zero => exact absurd HA.out (by simp [impl_InodeOk.l0])
  | succ k1 =>
   have H := HA.out
   clear HA
   simp only [impl_InodeOk.l0] at H
   by_cases c4 : x8_1 < (l0_2.length : Int)
   ·rw [if_pos c4] at H
    have c4b0 : decide (x8_1 < (l0_2.length : Int)) = true := decide_eq_true c4
    clear c4
    by_cases c5 : 0 ≤ x8_1
    ·rw [if_pos c5] at H
     have c5b0 : decide (0 ≤ x8_1) = true := decide_eq_true c5
     clear c5
     by_cases c6 : x8_1 < (l0_2.length : Int)
     ·rw [if_pos c6] at H
      have c6b0 : decide (x8_1 < (l0_2.length : Int)) = true := decide_eq_true c6
      clear c6
      replace H := Option.bind_eq_some_iff.mp H
      obtain ⟨t283, A70, H⟩ := H
      replace H : (if t283 = true then (if (rd l0_2 x8_1) = 0 then (impl_InodeOk.l0 k1 l0_2 (l0_2.length : Int) (wrap64 (x8_1 + 1)) a0_0 a0_1 l0_2) else (if a0_0 = 0 then (some false) else (impl_InodeOk.l0 k1 l0_2 (l0_2.length : Int) (wrap64 (x8_1 + 1)) a0_0 a0_1 l0_2))) else (some false)) = some r := H
      have A7 := Aside0.mk A70
      clear A70
      by_cases c8 : t283 = true
      ·subst c8
       have H1 : (if (rd l0_2 x8_1) = 0 then (impl_InodeOk.l0 k1 l0_2 (l0_2.length : Int) (wrap64 (x8_1 + 1)) a0_0 a0_1 l0_2) else (if a0_0 = 0 then (some false) else (impl_InodeOk.l0 k1 l0_2 (l0_2.length : Int) (wrap64 (x8_1 + 1)) a0_0 a0_1 l0_2))) = some r := by rw [if_pos rfl] at H; exact H
       clear H
       have H := H1
       clear H1
       by_cases c9 : (rd l0_2 x8_1) = 0
       ·rw [if_pos c9] at H
        have c9b0 : ((rd l0_2 x8_1) == 0) = true := beq_iff_eq.mpr c9
        have c9b1 : ((rd l0_2 x8_1) != 0) = false := bne_eq_false_iff_eq.mpr c9
        clear c9
        have H' := Aside0.mk H
        clear H
        have p282 : 0 ≤ (x8_1 : Int) := qo
        have q282 : x8_1 < (l0_2.length : Int) := qo
        obtain ⟨ad282, e282, hx282_0⟩ := Kd.at_int HR0_2.out x8_1 p282 q282
        cases e282
        replace hx282_0 := qc HB.out hx282_0
        replace p282 := eq_true p282
        replace q282 := eq_true q282
        go_wp2_with (first | ((with_reducible refine gate_callee (f := 97) rfl ?_); refine goesL_ (some 13) rfl rfl Try.func97 (by kernel_rfl) rfl #[.int .i64 (rd l0_2 x8_1), .int .i64 0, .int .i64 16] rfl qm ?_; (with_reducible refine (impl_within.calls (rd l0_2 x8_1) 0 16 true _ A7.out).mono ?_); rintro e w' ⟨rfl, ⟨nd, rfl⟩⟩; refine ⟨_, rfl, ?_⟩))
        go_roundg k1
        case measure => have := HK1.out; omega
        case rel => exact ⟨(wrap64 (x8_1 + 1)), qz, H', ⟨by have := HK1.out; omega⟩, ⟨qk BK281.out⟩, ⟨qb1 HB.out GE281.out⟩⟩
       ·rw [if_neg c9] at H
        have c9b0 : ((rd l0_2 x8_1) == 0) = false := beq_eq_false_iff_ne.mpr c9
        have c9b1 : ((rd l0_2 x8_1) != 0) = true := bne_iff_ne.mpr c9
        by_cases c10 : a0_0 = 0
        ·rw [if_pos c10] at H
         have c10b0 : (a0_0 == 0) = true := beq_iff_eq.mpr c10
         have c10b1 : (a0_0 != 0) = false := bne_eq_false_iff_eq.mpr c10
         clear c10
         obtain rfl := Option.some.inj H
         have p282 : 0 ≤ (x8_1 : Int) := qo
         have q282 : x8_1 < (l0_2.length : Int) := qo
         obtain ⟨ad282, e282, hx282_0⟩ := Kd.at_int HR0_2.out x8_1 p282 q282
         cases e282
         replace hx282_0 := qc HB.out hx282_0
         replace p282 := eq_true p282
         replace q282 := eq_true q282
         go_wp2_with (first | ((with_reducible refine gate_callee (f := 97) rfl ?_); refine goesL_ (some 13) rfl rfl Try.func97 (by kernel_rfl) rfl #[.int .i64 (rd l0_2 x8_1), .int .i64 0, .int .i64 16] rfl qm ?_; (with_reducible refine (impl_within.calls (rd l0_2 x8_1) 0 16 true _ A7.out).mono ?_); rintro e w' ⟨rfl, ⟨nd, rfl⟩⟩; refine ⟨_, rfl, ?_⟩; have hcz11_0 : wr.cell? ⟨gb281, 0, none⟩ = some (.int .i64 a0_0) := (blk_cell BK281.out 0).trans rfl; have hcz11_1 : wr.cell? ⟨gb281, 1, none⟩ = some (.int .i64 a0_1) := (blk_cell BK281.out 1).trans rfl; have hcz11_2 : wr.cell? ⟨gb281, 2, none⟩ = some (.slice (some ad282) l0_2.length c0_2) := (blk_cell BK281.out 2).trans rfl; have hfz11_0 := blk_frozen BK281.out 0; have hfz11_1 := blk_frozen BK281.out 1; have hfz11_2 := blk_frozen BK281.out 2))
         go_ret
         exact ⟨qe, qb1 HB.out GE281.out⟩
        ·rw [if_neg c10] at H
         have c10b0 : (a0_0 == 0) = false := beq_eq_false_iff_ne.mpr c10
         have c10b1 : (a0_0 != 0) = true := bne_iff_ne.mpr c10
         have H' := Aside0.mk H
         clear H
         have p282 : 0 ≤ (x8_1 : Int) := qo
         have q282 : x8_1 < (l0_2.length : Int) := qo
         obtain ⟨ad282, e282, hx282_0⟩ := Kd.at_int HR0_2.out x8_1 p282 q282
         cases e282
         replace hx282_0 := qc HB.out hx282_0
         replace p282 := eq_true p282
         replace q282 := eq_true q282
         go_wp2_with (first | ((with_reducible refine gate_callee (f := 97) rfl ?_); refine goesL_ (some 13) rfl rfl Try.func97 (by kernel_rfl) rfl #[.int .i64 (rd l0_2 x8_1), .int .i64 0, .int .i64 16] rfl qm ?_; (with_reducible refine (impl_within.calls (rd l0_2 x8_1) 0 16 true _ A7.out).mono ?_); rintro e w' ⟨rfl, ⟨nd, rfl⟩⟩; refine ⟨_, rfl, ?_⟩; have hcz12_0 : wr.cell? ⟨gb281, 0, none⟩ = some (.int .i64 a0_0) := (blk_cell BK281.out 0).trans rfl; have hcz12_1 : wr.cell? ⟨gb281, 1, none⟩ = some (.int .i64 a0_1) := (blk_cell BK281.out 1).trans rfl; have hcz12_2 : wr.cell? ⟨gb281, 2, none⟩ = some (.slice (some ad282) l0_2.length c0_2) := (blk_cell BK281.out 2).trans rfl; have hfz12_0 := blk_frozen BK281.out 0; have hfz12_1 := blk_frozen BK281.out 1; have hfz12_2 := blk_frozen BK281.out 2))
         go_roundg k1
         case measure => have := HK1.out; omega
         case rel => exact ⟨(wrap64 (x8_1 + 1)), qz, H', ⟨by have := HK1.out; omega⟩, ⟨qk BK281.out⟩, ⟨qb1 HB.out GE281.out⟩⟩
      ·replace c8 := Bool.eq_false_iff.mpr c8
       subst c8
       have H1 : (some false) = some r := by rw [if_neg (show ¬ (false = true) by decide)] at H; exact H
       clear H
       have H := H1
       clear H1
       obtain rfl := Option.some.inj H
       have p282 : 0 ≤ (x8_1 : Int) := qo
       have q282 : x8_1 < (l0_2.length : Int) := qo
       obtain ⟨ad282, e282, hx282_0⟩ := Kd.at_int HR0_2.out x8_1 p282 q282
       cases e282
       replace hx282_0 := qc HB.out hx282_0
       replace p282 := eq_true p282
       replace q282 := eq_true q282
       go_wp2_with (first | ((with_reducible refine gate_callee (f := 97) rfl ?_); refine goesL_ (some 13) rfl rfl Try.func97 (by kernel_rfl) rfl #[.int .i64 (rd l0_2 x8_1), .int .i64 0, .int .i64 16] rfl qm ?_; (with_reducible refine (impl_within.calls (rd l0_2 x8_1) 0 16 false _ A7.out).mono ?_); rintro e w' ⟨rfl, ⟨nd, rfl⟩⟩; refine ⟨_, rfl, ?_⟩))
       go_ret
       exact ⟨qe, qb1 HB.out GE281.out⟩
     ·rw [if_neg c6] at H
      exact absurd H (by simp)
    ·rw [if_neg c5] at H
     exact absurd H (by simp)
   ·rw [if_neg c4] at H
    have c4b0 : decide (x8_1 < (l0_2.length : Int)) = false := decide_eq_false c4
    clear c4
    replace H := Option.bind_eq_some_iff.mp H
    obtain ⟨t284, A130, H⟩ := H
    replace H : (if t284 = true then ((impl_within.f a0_1 0 200).bind fun t285 => (if t285 = true then (if (l0_2.length : Int) = 2 then (if a0_0 = 0 then (some (a0_1 == 0)) else (some true)) else (some false)) else (some false))) else (some false)) = some r := H
    have A13 := Aside0.mk A130
    clear A130
    by_cases c14 : t284 = true
    ·subst c14
     have H1 : ((impl_within.f a0_1 0 200).bind fun t285 => (if t285 = true then (if (l0_2.length : Int) = 2 then (if a0_0 = 0 then (some (a0_1 == 0)) else (some true)) else (some false)) else (some false))) = some r := by rw [if_pos rfl] at H; exact H
     clear H
     have H := H1
     clear H1
     replace H := Option.bind_eq_some_iff.mp H
     obtain ⟨t285, A150, H⟩ := H
     replace H : (if t285 = true then (if (l0_2.length : Int) = 2 then (if a0_0 = 0 then (some (a0_1 == 0)) else (some true)) else (some false)) else (some false)) = some r := H
     have A15 := Aside0.mk A150
     clear A150
     by_cases c16 : t285 = true
     ·subst c16
      have H1 : (if (l0_2.length : Int) = 2 then (if a0_0 = 0 then (some (a0_1 == 0)) else (some true)) else (some false)) = some r := by rw [if_pos rfl] at H; exact H
      clear H
      have H := H1
      clear H1
      by_cases c17 : (l0_2.length : Int) = 2
      ·rw [if_pos c17] at H
       have c17b0 : ((l0_2.length : Int) == 2) = true := beq_iff_eq.mpr c17
       have c17b1 : ((l0_2.length : Int) != 2) = false := bne_eq_false_iff_eq.mpr c17
       clear c17
       by_cases c18 : a0_0 = 0
       ·rw [if_pos c18] at H
        have c18b0 : (a0_0 == 0) = true := beq_iff_eq.mpr c18
        have c18b1 : (a0_0 != 0) = false := bne_eq_false_iff_eq.mpr c18
        clear c18
        obtain rfl := Option.some.inj H
        have hcz19_0 : wr.cell? ⟨gb281, 0, none⟩ = some (.int .i64 a0_0) := (blk_cell BK281.out 0).trans rfl
        have hcz19_1 : wr.cell? ⟨gb281, 1, none⟩ = some (.int .i64 a0_1) := (blk_cell BK281.out 1).trans rfl
        have hcz19_2 : wr.cell? ⟨gb281, 2, none⟩ = some (.slice A0_2 l0_2.length c0_2) := (blk_cell BK281.out 2).trans rfl
        have hfz19_0 := blk_frozen BK281.out 0
        have hfz19_1 := blk_frozen BK281.out 1
        have hfz19_2 := blk_frozen BK281.out 2
        go_wp2_with (first | ((with_reducible refine gate_callee (f := 97) rfl ?_); refine goesL_ (some 27) rfl rfl Try.func97 (by kernel_rfl) rfl #[.int .i64 a0_0, .int .i64 0, .int .i64 2] rfl qm ?_; (with_reducible refine (impl_within.calls a0_0 0 2 true _ A13.out).mono ?_); rintro e w' ⟨rfl, ⟨nd, rfl⟩⟩; refine ⟨_, rfl, ?_⟩) | (go_at_call 97; (with_reducible refine (impl_within.calls a0_1 0 200 true _ A15.out).mono ?_); rintro e w' ⟨rfl, ⟨nd, rfl⟩⟩))
        go_ret
        exact ⟨qe, qb1 HB.out GE281.out⟩
       ·rw [if_neg c18] at H
        have c18b0 : (a0_0 == 0) = false := beq_eq_false_iff_ne.mpr c18
        have c18b1 : (a0_0 != 0) = true := bne_iff_ne.mpr c18
        obtain rfl := Option.some.inj H
        have hcz20_0 : wr.cell? ⟨gb281, 0, none⟩ = some (.int .i64 a0_0) := (blk_cell BK281.out 0).trans rfl
        have hcz20_1 : wr.cell? ⟨gb281, 1, none⟩ = some (.int .i64 a0_1) := (blk_cell BK281.out 1).trans rfl
        have hcz20_2 : wr.cell? ⟨gb281, 2, none⟩ = some (.slice A0_2 l0_2.length c0_2) := (blk_cell BK281.out 2).trans rfl
        have hfz20_0 := blk_frozen BK281.out 0
        have hfz20_1 := blk_frozen BK281.out 1
        have hfz20_2 := blk_frozen BK281.out 2
        go_wp2_with (first | ((with_reducible refine gate_callee (f := 97) rfl ?_); refine goesL_ (some 27) rfl rfl Try.func97 (by kernel_rfl) rfl #[.int .i64 a0_0, .int .i64 0, .int .i64 2] rfl qm ?_; (with_reducible refine (impl_within.calls a0_0 0 2 true _ A13.out).mono ?_); rintro e w' ⟨rfl, ⟨nd, rfl⟩⟩; refine ⟨_, rfl, ?_⟩) | (go_at_call 97; (with_reducible refine (impl_within.calls a0_1 0 200 true _ A15.out).mono ?_); rintro e w' ⟨rfl, ⟨nd, rfl⟩⟩))
        go_ret
        exact ⟨qe, qb1 HB.out GE281.out⟩
      ·rw [if_neg c17] at H
       have c17b0 : ((l0_2.length : Int) == 2) = false := beq_eq_false_iff_ne.mpr c17
       have c17b1 : ((l0_2.length : Int) != 2) = true := bne_iff_ne.mpr c17
       obtain rfl := Option.some.inj H
       have hcz21_0 : wr.cell? ⟨gb281, 0, none⟩ = some (.int .i64 a0_0) := (blk_cell BK281.out 0).trans rfl
       have hcz21_1 : wr.cell? ⟨gb281, 1, none⟩ = some (.int .i64 a0_1) := (blk_cell BK281.out 1).trans rfl
       have hcz21_2 : wr.cell? ⟨gb281, 2, none⟩ = some (.slice A0_2 l0_2.length c0_2) := (blk_cell BK281.out 2).trans rfl
       have hfz21_0 := blk_frozen BK281.out 0
       have hfz21_1 := blk_frozen BK281.out 1
       have hfz21_2 := blk_frozen BK281.out 2
       go_wp2_with (first | ((with_reducible refine gate_callee (f := 97) rfl ?_); refine goesL_ (some 27) rfl rfl Try.func97 (by kernel_rfl) rfl #[.int .i64 a0_0, .int .i64 0, .int .i64 2] rfl qm ?_; (with_reducible refine (impl_within.calls a0_0 0 2 true _ A13.out).mono ?_); rintro e w' ⟨rfl, ⟨nd, rfl⟩⟩; refine ⟨_, rfl, ?_⟩) | (go_at_call 97; (with_reducible refine (impl_within.calls a0_1 0 200 true _ A15.out).mono ?_); rintro e w' ⟨rfl, ⟨nd, rfl⟩⟩))
       go_ret
       exact ⟨qe, qb1 HB.out GE281.out⟩
     ·replace c16 := Bool.eq_false_iff.mpr c16
      subst c16
      have H1 : (some false) = some r := by rw [if_neg (show ¬ (false = true) by decide)] at H; exact H
      clear H
      have H := H1
      clear H1
      obtain rfl := Option.some.inj H
      have hcz22_0 : wr.cell? ⟨gb281, 0, none⟩ = some (.int .i64 a0_0) := (blk_cell BK281.out 0).trans rfl
      have hcz22_1 : wr.cell? ⟨gb281, 1, none⟩ = some (.int .i64 a0_1) := (blk_cell BK281.out 1).trans rfl
      have hcz22_2 : wr.cell? ⟨gb281, 2, none⟩ = some (.slice A0_2 l0_2.length c0_2) := (blk_cell BK281.out 2).trans rfl
      have hfz22_0 := blk_frozen BK281.out 0
      have hfz22_1 := blk_frozen BK281.out 1
      have hfz22_2 := blk_frozen BK281.out 2
      go_wp2_with (first | ((with_reducible refine gate_callee (f := 97) rfl ?_); refine goesL_ (some 27) rfl rfl Try.func97 (by kernel_rfl) rfl #[.int .i64 a0_0, .int .i64 0, .int .i64 2] rfl qm ?_; (with_reducible refine (impl_within.calls a0_0 0 2 true _ A13.out).mono ?_); rintro e w' ⟨rfl, ⟨nd, rfl⟩⟩; refine ⟨_, rfl, ?_⟩) | (go_at_call 97; (with_reducible refine (impl_within.calls a0_1 0 200 false _ A15.out).mono ?_); rintro e w' ⟨rfl, ⟨nd, rfl⟩⟩))
      go_ret
      exact ⟨qe, qb1 HB.out GE281.out⟩
    ·replace c14 := Bool.eq_false_iff.mpr c14
     subst c14
     have H1 : (some false) = some r := by rw [if_neg (show ¬ (false = true) by decide)] at H; exact H
     clear H
     have H := H1
     clear H1
     obtain rfl := Option.some.inj H
     have hcz23_0 : wr.cell? ⟨gb281, 0, none⟩ = some (.int .i64 a0_0) := (blk_cell BK281.out 0).trans rfl
     have hcz23_1 : wr.cell? ⟨gb281, 1, none⟩ = some (.int .i64 a0_1) := (blk_cell BK281.out 1).trans rfl
     have hcz23_2 : wr.cell? ⟨gb281, 2, none⟩ = some (.slice A0_2 l0_2.length c0_2) := (blk_cell BK281.out 2).trans rfl
     have hfz23_0 := blk_frozen BK281.out 0
     have hfz23_1 := blk_frozen BK281.out 1
     have hfz23_2 := blk_frozen BK281.out 2
     go_wp2_with (first | ((with_reducible refine gate_callee (f := 97) rfl ?_); refine goesL_ (some 27) rfl rfl Try.func97 (by kernel_rfl) rfl #[.int .i64 a0_0, .int .i64 0, .int .i64 2] rfl qm ?_; (with_reducible refine (impl_within.calls a0_0 0 2 false _ A13.out).mono ?_); rintro e w' ⟨rfl, ⟨nd, rfl⟩⟩; refine ⟨_, rfl, ?_⟩))
     go_ret
     exact ⟨qe, qb1 HB.out GE281.out⟩

/-! ### impl_BitsOk: function 120 -/
def impl_BitsOk.f (l0_0 : List Bool) (l0_1 : List Bool) : Option (Bool) := if (l0_0.length : Int) = 16 then (some ((l0_1.length : Int) == 8)) else (some false)
set_option maxHeartbeats 8000000 in
set_option maxRecDepth 100000 in
theorem impl_BitsOk.calls (A0_0 : Option Addr) (c0_0 : Nat) (l0_0 : List Bool) (A0_1 : Option Addr) (c0_1 : Nat) (l0_1 : List Bool) (r : Bool) (w : World) (hr0_0 : Kd.C Kd.bool w A0_0 l0_0.length l0_0) (hc0_0 : l0_0.length ≤ c0_0) (hr0_1 : Kd.C Kd.bool w A0_1 l0_1.length l0_1) (hc0_1 : l0_1.length ≤ c0_1) (h : impl_BitsOk.f l0_0 l0_1 = some r) :
  Calls Try.prog 120 #[.agg #[.slice A0_0 l0_0.length c0_0, .slice A0_1 l0_1.length c0_1]] w fun e w' => e = .returned (.bool r) ∧ Below w.heap.size w w' := by
 have hu35 := Try.underlying35
 have HR0_0 := Aside0.mk hr0_0
 have HC0_0 := Aside0.mk hc0_0
 clear hr0_0 hc0_0
 have HR0_1 := Aside0.mk hr0_1
 have HC0_1 := Aside0.mk hc0_1
 clear hr0_1 hc0_1
 have HB := Aside0.mk (Below.refl w.heap.size w)
 have H : (if (l0_0.length : Int) = 16 then (some ((l0_1.length : Int) == 8)) else (some false)) = some r := h
 clear h
 by_cases c2 : (l0_0.length : Int) = 16
 ·rw [if_pos c2] at H
  have c2b0 : ((l0_0.length : Int) == 16) = true := beq_iff_eq.mpr c2
  have c2b1 : ((l0_0.length : Int) != 16) = false := bne_eq_false_iff_eq.mpr c2
  clear c2
  obtain rfl := Option.some.inj H
  go_enter Try.func120, Try.ntmps120
  go_wp2_with (first | ((with_reducible refine gate_dst (N := 1) rfl ?_); (try (refine gate_guard (by rfl) ?_; dsimp only)); refine box_event ?hg (N := 1) ?hd (cs := #[.slice A0_0 l0_0.length c0_0, .slice A0_1 l0_1.length c0_1]) (t := 35) ?hr ?_; (case hd => rfl); (case hg => rfl); (case hr => first | (go_simp; done) | (go_simp; rfl)); intro gb286 hg w3 hbox hb; have n0_ := Aside0.mk (below_step (qb HB.out) hb); have n1_ := Aside0.mk (hbox); have n2_ := Aside0.mk ((by rw [hg]; exact (below_size (qb HB.out)) : w.heap.size ≤ gb286)); have n3_ := Aside0.mk ((by rw [hg]; exact (below_size (qb HB.out)) : w.heap.size ≤ gb286)); clear HB; have HB := n0_; have BK286 := n1_; have GW286 := n2_; have GE286 := n3_; clear n0_ n1_ n2_ n3_; clear hb hbox hg; have hcz4_0 : w3.cell? ⟨gb286, 0, none⟩ = some (.slice A0_0 l0_0.length c0_0) := (blk_cell BK286.out 0).trans rfl; have hcz4_1 : w3.cell? ⟨gb286, 1, none⟩ = some (.slice A0_1 l0_1.length c0_1) := (blk_cell BK286.out 1).trans rfl; have hfz4_0 := blk_frozen BK286.out 0; have hfz4_1 := blk_frozen BK286.out 1))
  go_ret
  exact ⟨qe, qb1 HB.out GE286.out⟩
 ·rw [if_neg c2] at H
  have c2b0 : ((l0_0.length : Int) == 16) = false := beq_eq_false_iff_ne.mpr c2
  have c2b1 : ((l0_0.length : Int) != 16) = true := bne_iff_ne.mpr c2
  obtain rfl := Option.some.inj H
  go_enter Try.func120, Try.ntmps120
  go_wp2_with (first | ((with_reducible refine gate_dst (N := 1) rfl ?_); (try (refine gate_guard (by rfl) ?_; dsimp only)); refine box_event ?hg (N := 1) ?hd (cs := #[.slice A0_0 l0_0.length c0_0, .slice A0_1 l0_1.length c0_1]) (t := 35) ?hr ?_; (case hd => rfl); (case hg => rfl); (case hr => first | (go_simp; done) | (go_simp; rfl)); intro gb286 hg w5 hbox hb; have n0_ := Aside0.mk (below_step (qb HB.out) hb); have n1_ := Aside0.mk (hbox); have n2_ := Aside0.mk ((by rw [hg]; exact (below_size (qb HB.out)) : w.heap.size ≤ gb286)); have n3_ := Aside0.mk ((by rw [hg]; exact (below_size (qb HB.out)) : w.heap.size ≤ gb286)); clear HB; have HB := n0_; have BK286 := n1_; have GW286 := n2_; have GE286 := n3_; clear n0_ n1_ n2_ n3_; clear hb hbox hg; have hcz6_0 : w5.cell? ⟨gb286, 0, none⟩ = some (.slice A0_0 l0_0.length c0_0) := (blk_cell BK286.out 0).trans rfl; have hcz6_1 : w5.cell? ⟨gb286, 1, none⟩ = some (.slice A0_1 l0_1.length c0_1) := (blk_cell BK286.out 1).trans rfl; have hfz6_0 := blk_frozen BK286.out 0; have hfz6_1 := blk_frozen BK286.out 1))
  go_ret
  exact ⟨qe, qb1 HB.out GE286.out⟩

end Go.Proofs.Ytdnbpapolckklaa.PFnExactDeviceOf
