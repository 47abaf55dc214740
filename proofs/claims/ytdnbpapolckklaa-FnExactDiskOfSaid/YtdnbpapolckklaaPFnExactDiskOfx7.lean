-- Written by a program of this session (a changed copy of the kit's print: wip/print2). Lean checks it.
import Derived.Test.YtdnbpapolckklaaPax
import Derived.Test.YtdnbpapolckklaaPFnExactDiskOfx0
import Derived.Test.YtdnbpapolckklaaPFnExactDiskOfx5
import Derived.Test.YtdnbpapolckklaaPFnExactDiskOfx6
namespace Go.Proofs.Ytdnbpapolckklaa.PFnExactDiskOf
open Go.RowKit Go.Proofs.YtdnbpapolckklaaW.PrintWords Go.Proofs.YtdnbpapolckklaaW.PrintLast Go.Proofs.YtdnbpapolckklaaW.PrintMore
attribute [local go_sem] max2_int min2_int max_two min_two max_three min_three max_four min_four   -- for this text's walks alone
attribute [local go_sem] Go.Proofs.Ytdnbpapolckklaa.Pad.isSome_setCell
set_option linter.unusedVariables false
set_option linter.unusedSimpArgs false

/-! ### spec_BlockOk: function 33 -/
mutual
def spec_BlockOk.j0 : Nat → Bool → Bool → List (S69) → ByteArray → Option (Bool)
 | 0, _, _, _, _ => none
 | k + 1, x27, x163000, x163001, x163002 => if x27 = true then (some false) else (spec_BlockOk.l0 k 0 x163000 x163001 x163002)
def spec_BlockOk.l0 : Nat → Int → Bool → List (S69) → ByteArray → Option (Bool)
 | 0, _, _, _, _ => none
 | k + 1, x3, x163000, x163001, x163002 => if x3 < 4 then (if 0 ≤ x3 then (if x3 < (x163001.length : Int) then (if ((rd_T69 x163001 x3).f0).toList = ([] : List UInt8) then (spec_BlockOk.j2 k x3 (((rd_T69 x163001 x3).f1) == 0) x163000 x163001 x163002 ((rd_T69 x163001 x3).f0) ((rd_T69 x163001 x3).f1)) else (spec_BlockOk.j2 k x3 false x163000 x163001 x163002 ((rd_T69 x163001 x3).f0) ((rd_T69 x163001 x3).f1))) else (none)) else (none)) else (some true)
def spec_BlockOk.j2 : Nat → Int → Bool → Bool → List (S69) → ByteArray → ByteArray → Int → Option (Bool)
 | 0, _, _, _, _, _, _, _ => none
 | k + 1, x3, x44, x163000, x163001, x163002, x165000, x165001 => if x44 = true then (spec_BlockOk.l0 k (wrap64 (x3 + 1)) x163000 x163001 x163002) else ((spec_NameOk.f k x165000).bind fun t165 => (if t165 = true then ((spec_l01In.f x165001 1 8).bind fun t166 => (spec_BlockOk.j3 k x3 (!t166) x163000 x163001 x163002 x165000 x165001)) else (spec_BlockOk.j3 k x3 true x163000 x163001 x163002 x165000 x165001)))
def spec_BlockOk.j3 : Nat → Int → Bool → Bool → List (S69) → ByteArray → ByteArray → Int → Option (Bool)
 | 0, _, _, _, _, _, _, _ => none
 | k + 1, x3, x54, x163000, x163001, x163002, x165000, x165001 => if x54 = true then (some false) else (spec_BlockOk.l1 k x3 0 x163000 x163001 x163002 x165000 x165001)
def spec_BlockOk.l1 : Nat → Int → Int → Bool → List (S69) → ByteArray → ByteArray → Int → Option (Bool)
 | 0, _, _, _, _, _, _, _ => none
 | k + 1, x3, x5, x163000, x163001, x163002, x165000, x165001 => if x5 < x3 then (if 0 ≤ x5 then (if x5 < (x163001.length : Int) then (if ((rd_T69 x163001 x5).f0).toList = x165000.toList then (some false) else (spec_BlockOk.l1 k x3 (wrap64 (x5 + 1)) x163000 x163001 x163002 x165000 x165001)) else (none)) else (none)) else (spec_BlockOk.l0 k (wrap64 (x3 + 1)) x163000 x163001 x163002)
end
def spec_BlockOk.f (k : Nat) (a0_0 : Bool) (l0_1 : List (S69)) (a0_2 : ByteArray) : Option (Bool) := if a0_0 = true then (if (l0_1.length : Int) = 4 then (spec_BlockOk.j0 k (a0_2.toList != ([] : List UInt8)) a0_0 l0_1 a0_2) else (spec_BlockOk.j0 k true a0_0 l0_1 a0_2)) else (if (l0_1.length : Int) = 0 then (some (decide ((a0_2.size : Int) ≤ 16))) else (some false))
set_option maxHeartbeats 8000000 in
set_option maxRecDepth 100000 in
theorem spec_BlockOk.calls (k : Nat) (a0_0 : Bool) (A0_1 : Option Addr) (c0_1 : Nat) (l0_1 : List (S69)) (a0_2 : ByteArray) (r : Bool) (w : World) (hr0_1 : Kd.C k69 w A0_1 l0_1.length l0_1) (hc0_1 : l0_1.length ≤ c0_1) (h : spec_BlockOk.f k a0_0 l0_1 a0_2 = some r) :
  Calls Try.prog 33 #[.agg #[.bool a0_0, .slice A0_1 l0_1.length c0_1, .string a0_2]] w fun e w' => e = .returned (.bool r) ∧ Below w.heap.size w w' := by
 have hu59 := Try.underlying59
 have hu69 := Try.underlying69
 have HR0_1 := vA hr0_1
 have HC0_1 := vA hc0_1
 clear hr0_1 hc0_1
 have HB := vA (Below.refl w.heap.size w)
 have H : (if a0_0 = true then (if (l0_1.length : Int) = 4 then (spec_BlockOk.j0 k (a0_2.toList != ([] : List UInt8)) a0_0 l0_1 a0_2) else (spec_BlockOk.j0 k true a0_0 l0_1 a0_2)) else (if (l0_1.length : Int) = 0 then (some (decide ((a0_2.size : Int) ≤ 16))) else (some false))) = some r := h
 clear h
 by_cases c2 : a0_0 = true
 ·subst c2
  rw [if_pos rfl] at H; have HC3 := vA H; clear H
  go_enter Try.func33, Try.ntmps33
  go_upto_region 3 with (first | ((with_reducible refine gate_dst (N := 1) rfl ?_); (try (refine gate_guard (by rfl) ?_; dsimp only)); refine vx (N := 1) (cs := #[.bool true, .slice A0_1 l0_1.length c0_1, .string a0_2]) (t := 59) ?_; intro gb162 hg w4 hbox hb; have BK162 := vA (hbox); have GW162 := vA ((vg hg (qb HB.out))); have GE162 := GW162; replace HB := vbs HB hb; clear hb hbox hg; obtain ⟨hcz5_0, hcz5_1, hcz5_2⟩ := v3c BK162.out; obtain ⟨hfz5_0, hfz5_1, hfz5_2⟩ := v3f BK162.out))
  repeat (go_quiet (first | ((with_reducible refine gate_dst (N := 1) rfl ?_); (try (refine gate_guard (by rfl) ?_; dsimp only)); refine vx (N := 1) (cs := #[.bool true, .slice A0_1 l0_1.length c0_1, .string a0_2]) (t := 59) ?_; intro gb162 hg w4 hbox hb; have BK162 := vA (hbox); have GW162 := vA ((vg hg (qb HB.out))); have GE162 := GW162; replace HB := vbs HB hb; clear hb hbox hg; obtain ⟨hcz5_0, hcz5_1, hcz5_2⟩ := v3c BK162.out; obtain ⟨hfz5_0, hfz5_1, hfz5_2⟩ := v3f BK162.out)); go_upto_region 3 with (first | ((with_reducible refine gate_dst (N := 1) rfl ?_); (try (refine gate_guard (by rfl) ?_; dsimp only)); refine box_event ?hg (N := 1) ?hd (cs := #[.bool true, .slice A0_1 l0_1.length c0_1, .string a0_2]) (t := 59) ?hr ?_; (case hd => rfl); (case hg => rfl); (case hr => first | (go_simp; done) | (go_simp; rfl)); intro gb162 hg w4 hbox hb; have n0_ := Aside0.mk (below_step (qb HB.out) hb); have n1_ := Aside0.mk (hbox); have n2_ := Aside0.mk ((by rw [hg]; exact (below_size (qb HB.out)) : w.heap.size ≤ gb162)); have n3_ := Aside0.mk ((by rw [hg]; exact (below_size (qb HB.out)) : w.heap.size ≤ gb162)); clear HB; have HB := n0_; have BK162 := n1_; have GW162 := n2_; have GE162 := n3_; clear n0_ n1_ n2_ n3_; clear hb hbox hg; have hcz5_0 : w4.cell? ⟨gb162, 0, none⟩ = some (.bool true) := (blk_cell BK162.out 0).trans rfl; have hcz5_1 : w4.cell? ⟨gb162, 1, none⟩ = some (.slice A0_1 l0_1.length c0_1) := (blk_cell BK162.out 1).trans rfl; have hcz5_2 : w4.cell? ⟨gb162, 2, none⟩ = some (.string a0_2) := (blk_cell BK162.out 2).trans rfl; have hfz5_0 := blk_frozen BK162.out 0; have hfz5_1 := blk_frozen BK162.out 1; have hfz5_2 := blk_frozen BK162.out 2)))
  (try simp only [Act.put, List.setIfInBounds_toArray, List.set_cons_zero, List.set_cons_succ])
  go_cut [27] (fun v27 wc => ∃ (kq : Nat) (x27_2 : Bool), v27 = .bool x27_2 ∧ Aside0 (spec_BlockOk.j0 kq x27_2 true l0_1 a0_2 = some r) ∧ Aside0 (kq ≤ k) ∧ Aside0 (wc.heap[gb162]? = some (.cells #[.bool true, (.slice A0_1 l0_1.length c0_1), .string a0_2] 59 (0, 0))) ∧ Aside0 (Below w.heap.size w wc))
  case first =>
   have H := HC3.out; clear HC3
   by_cases c6 : (l0_1.length : Int) = 4
   ·rw [if_pos c6] at H
    have c6b0 : ((l0_1.length : Int) == 4) = true := beq_iff_eq.mpr c6; have c6b1 : ((l0_1.length : Int) != 4) = false := bne_eq_false_iff_eq.mpr c6; clear c6
    (first | rw [c6b0] | (simp only [i64_w, i32_w]; rw [c6b0]) | skip)
    have H' := vA H; clear H; obtain ⟨hcz7_0, hcz7_1, hcz7_2⟩ := v3c BK162.out; obtain ⟨hfz7_0, hfz7_1, hfz7_2⟩ := v3f BK162.out
    go_wp2
    repeat (go_quiet (fail); try go_wp2)
    go_meet
    case rel => exact ⟨_, ((a0_2.toList != ([] : List UInt8))), qz, H', ⟨by first | omega | exact Nat.le_refl _⟩, ⟨qk BK162.out⟩, ⟨qb1 HB.out GE162.out⟩⟩
   ·rw [if_neg c6] at H
    have c6b0 : ((l0_1.length : Int) == 4) = false := beq_eq_false_iff_ne.mpr c6; have c6b1 : ((l0_1.length : Int) != 4) = true := bne_iff_ne.mpr c6
    (first | rw [c6b0] | (simp only [i64_w, i32_w]; rw [c6b0]) | skip)
    have H' := vA H; clear H; obtain ⟨hcz8_0, hcz8_1, hcz8_2⟩ := v3c BK162.out; obtain ⟨hfz8_0, hfz8_1, hfz8_2⟩ := v3f BK162.out
    go_wp2
    repeat (go_quiet (fail); try go_wp2)
    go_meet
    case rel => exact ⟨_, (true), qz, H', ⟨by first | omega | exact Nat.le_refl _⟩, ⟨qk BK162.out⟩, ⟨qb1 HB.out GE162.out⟩⟩
  case rest =>
   clear HC3
   (try clear c2); (try clear p2); (try clear c3); (try clear c6); (try clear c6b0); (try clear c6b1); (try clear hcz5_0); (try clear hcz5_1); (try clear hcz5_2); (try clear hcz7_0); (try clear hcz7_1); (try clear hcz7_2); (try clear hcz8_0); (try clear hcz8_1); (try clear hcz8_2); (try clear hfz5_0); (try clear hfz5_1); (try clear hfz5_2); (try clear hfz7_0); (try clear hfz7_1); (try clear hfz7_2); (try clear hfz8_0); (try clear hfz8_1); (try clear hfz8_2)
   obtain ⟨kq, x27_2, rfl, HA, HJ2, BK162, HB⟩ := hcut
   cases kq with
   | zero => exact absurd HA.out (by simp [spec_BlockOk.j0])
   | succ kj2 =>
    have H := HA.out; clear HA
    simp only [spec_BlockOk.j0] at H
    by_cases c9 : x27_2 = true
    ·subst c9
     rw [if_pos rfl] at H; obtain rfl := Option.some.inj H
     go_wp2
     repeat (go_quiet (fail); try go_wp2)
     go_ret
     exact ⟨qe, qb1 HB.out GE162.out⟩
    ·replace c9 := Bool.eq_false_iff.mpr c9
     subst c9
     rw [if_neg (show ¬ (false = true) by decide)] at H
     have H' := vA H; clear H
     go_wp2
     repeat (go_quiet (fail); try go_wp2)
     go_loopg [3] kj2 (fun kq v3 w' => ∃ (x3_2 : Int), v3 = .int .i64 x3_2 ∧ Aside0 (spec_BlockOk.l0 kq x3_2 true l0_1 a0_2 = some r) ∧ Aside0 (kq ≤ kj2) ∧ Aside0 (w'.heap[gb162]? = some (.cells #[.bool true, (.slice A0_1 l0_1.length c0_1), .string a0_2] 59 (0, 0))) ∧ Aside0 (Below w.heap.size w w'))
     case atStart => exact ⟨(0), qz, H', ⟨Nat.le_refl _⟩, ⟨qk BK162.out⟩, ⟨qb1 HB.out GE162.out⟩⟩
     case round =>
      clear H'
      (try clear c2); (try clear p2); (try clear c3); (try clear c6); (try clear c6b0); (try clear c6b1); (try clear c9); (try clear hcz5_0); (try clear hcz5_1); (try clear hcz5_2); (try clear hcz7_0); (try clear hcz7_1); (try clear hcz7_2); (try clear hcz8_0); (try clear hcz8_1); (try clear hcz8_2); (try clear hfz5_0); (try clear hfz5_1); (try clear hfz5_2); (try clear hfz7_0); (try clear hfz7_1); (try clear hfz7_2); (try clear hfz8_0); (try clear hfz8_1); (try clear hfz8_2); (try clear p2)
      obtain ⟨x3_2, rfl, HA, HK2, BK162, HB⟩ := hrel
      cases gk with
      | zero => exact absurd HA.out (by simp [spec_BlockOk.l0])
      | succ k2 =>
       have H := HA.out; clear HA
       simp only [spec_BlockOk.l0] at H
       by_cases c10 : x3_2 < 4
       ·rw [if_pos c10] at H
        have c10b0 : decide (x3_2 < 4) = true := decide_eq_true c10; clear c10
        by_cases c11 : 0 ≤ x3_2
        ·rw [if_pos c11] at H
         have c11b0 : decide (0 ≤ x3_2) = true := decide_eq_true c11; clear c11
         by_cases c12 : x3_2 < (l0_1.length : Int)
         ·rw [if_pos c12] at H
          have c12b0 : decide (x3_2 < (l0_1.length : Int)) = true := decide_eq_true c12; clear c12; have HC13 := vA H; clear H; obtain ⟨hcz14_0, hcz14_1, hcz14_2⟩ := v3c BK162.out; obtain ⟨hfz14_0, hfz14_1, hfz14_2⟩ := v3f BK162.out; have p163 : 0 ≤ (x3_2 : Int) := qo; have q163 : x3_2 < (l0_1.length : Int) := qo; obtain ⟨ad163, e163, hx163_0, hx163_1⟩ := at_T69 HR0_1.out x3_2 p163 q163
          cases e163
          replace hx163_0 := qc HB.out hx163_0; replace hx163_1 := qc HB.out hx163_1; replace p163 := eq_true p163; replace q163 := eq_true q163
          go_upto_region 9 with (first | ((with_reducible refine gate_dst (N := 4) rfl ?_); (try (refine gate_guard (by rfl) ?_; dsimp only)); refine vx (N := 4) (cs := #[.string (⟨#[]⟩ : ByteArray), .int .i64 0]) (t := 69) ?_; intro gb164 hg w15 hbox hb; have BK164 := vA (hbox); have GW164 := vA ((vg hg (vh HB))); have GE164 := GW164; replace HB := vbs HB hb; have NB162_164 := vn hg BK162; have NB164_162 := vN hg BK162; replace BK162 := vw BK162 hb; clear hb hbox hg; have hnb16 := NB164_162.out; have hnc16 := NB162_164.out; obtain ⟨hcz17_0, hcz17_1⟩ := v2c BK164.out; obtain ⟨hfz17_0, hfz17_1⟩ := v2f BK164.out))
          repeat (go_quiet (first | ((with_reducible refine gate_dst (N := 4) rfl ?_); (try (refine gate_guard (by rfl) ?_; dsimp only)); refine vx (N := 4) (cs := #[.string (⟨#[]⟩ : ByteArray), .int .i64 0]) (t := 69) ?_; intro gb164 hg w15 hbox hb; have BK164 := vA (hbox); have GW164 := vA ((vg hg (vh HB))); have GE164 := GW164; replace HB := vbs HB hb; have NB162_164 := vn hg BK162; have NB164_162 := vN hg BK162; replace BK162 := vw BK162 hb; clear hb hbox hg; have hnb16 := NB164_162.out; have hnc16 := NB162_164.out; obtain ⟨hcz17_0, hcz17_1⟩ := v2c BK164.out; obtain ⟨hfz17_0, hfz17_1⟩ := v2f BK164.out)); go_upto_region 9 with (first | ((with_reducible refine gate_dst (N := 4) rfl ?_); (try (refine gate_guard (by rfl) ?_; dsimp only)); refine box_event ?hg (N := 4) ?hd (cs := #[.string (⟨#[]⟩ : ByteArray), .int .i64 0]) (t := 69) ?hr ?_; (case hd => rfl); (case hg => rfl); (case hr => first | (go_simp; done) | (go_simp; rfl)); intro gb164 hg w15 hbox hb; have n0_ := Aside0.mk (blk_below (g := gb162) (o := .cells #[.bool true, .slice (some ad163) l0_1.length c0_1, .string a0_2] 59 (0, 0)) (qk BK162.out) hb); have n1_ := Aside0.mk (below_step (qb1 HB.out GE162.out) hb); have n2_ := Aside0.mk (hbox); have n3_ := Aside0.mk ((by rw [hg]; exact (below_size (qb1 HB.out GE162.out)) : w.heap.size ≤ gb164)); have n4_ := Aside0.mk ((by rw [hg]; exact (below_size (qb1 HB.out GE162.out)) : w.heap.size ≤ gb164)); have n5_ := Aside0.mk ((by rw [hg]; exact Nat.ne_of_lt (blk_lt (g := gb162) (o := .cells #[.bool true, .slice (some ad163) l0_1.length c0_1, .string a0_2] 59 (0, 0)) (qk BK162.out)) : gb162 ≠ gb164)); have n6_ := Aside0.mk ((by rw [hg]; exact Nat.ne_of_gt (blk_lt (g := gb162) (o := .cells #[.bool true, .slice (some ad163) l0_1.length c0_1, .string a0_2] 59 (0, 0)) (qk BK162.out)) : gb164 ≠ gb162)); clear BK162; clear HB; have BK162 := n0_; have HB := n1_; have BK164 := n2_; have GW164 := n3_; have GE164 := n4_; have NB162_164 := n5_; have NB164_162 := n6_; clear n0_ n1_ n2_ n3_ n4_ n5_ n6_; clear hb hbox hg; have hnb16 := NB164_162.out; have hnc16 := NB162_164.out; have hcz17_0 : w15.cell? ⟨gb164, 0, none⟩ = some (.string (⟨#[]⟩ : ByteArray)) := (blk_cell BK164.out 0).trans rfl; have hcz17_1 : w15.cell? ⟨gb164, 1, none⟩ = some (.int .i64 0) := (blk_cell BK164.out 1).trans rfl; have hfz17_0 := blk_frozen BK164.out 0; have hfz17_1 := blk_frozen BK164.out 1)))
          (try simp only [Act.put, List.setIfInBounds_toArray, List.set_cons_zero, List.set_cons_succ])
          go_cut [44] (fun v44 wc => ∃ (kq : Nat) (x44_12 : Bool), v44 = .bool x44_12 ∧ Aside0 (spec_BlockOk.j2 kq x3_2 x44_12 true l0_1 a0_2 ((rd_T69 l0_1 x3_2).f0) ((rd_T69 l0_1 x3_2).f1) = some r) ∧ Aside0 (kq ≤ k2) ∧ Aside0 (wc.heap[gb162]? = some (.cells #[.bool true, (.slice (some ad163) l0_1.length c0_1), .string a0_2] 59 (0, 0))) ∧ Aside0 (wc.heap[gb164]? = some (.cells #[.string ((rd_T69 l0_1 x3_2).f0), .int .i64 ((rd_T69 l0_1 x3_2).f1)] 69 (0, 0))) ∧ Aside0 (Below w.heap.size w wc))
          case first =>
           have H := HC13.out; clear HC13
           by_cases c18 : ((rd_T69 l0_1 x3_2).f0).toList = ([] : List UInt8)
           ·rw [if_pos c18] at H
            have c18b0 : (((rd_T69 l0_1 x3_2).f0).toList == ([] : List UInt8)) = true := beq_iff_eq.mpr c18; have c18b1 : (((rd_T69 l0_1 x3_2).f0).toList != ([] : List UInt8)) = false := bne_eq_false_iff_eq.mpr c18; clear c18
            (first | rw [c18b0] | (simp only [i64_w, i32_w]; rw [c18b0]) | skip)
            have H' := vA H; clear H; have hnb19 := NB164_162.out; have hnc19 := NB162_164.out; obtain ⟨hcz20_0, hcz20_1⟩ := v2c BK164.out; obtain ⟨hfz20_0, hfz20_1⟩ := v2f BK164.out
            go_wp2
            repeat (go_quiet (fail); try go_wp2)
            go_meet
            case rel => exact ⟨_, ((((rd_T69 l0_1 x3_2).f1) == 0)), qz, H', ⟨by have := HJ2.out; have := HK2.out; first | omega | exact Nat.le_refl _⟩, ⟨by refine qK ?_; refine blk_far ?_ NB162_164.out _; refine qK ?_; refine blk_far ?_ NB162_164.out _; refine qK ?_; exact BK162.out⟩, ⟨by refine qK ?_; refine blk_put (cs := #[.string ((rd_T69 l0_1 x3_2).f0), .int .i64 0]) ?_ 1 _ rfl; refine qK ?_; refine blk_put (cs := #[.string (⟨#[]⟩ : ByteArray), .int .i64 0]) ?_ 0 _ rfl; refine qK ?_; exact BK164.out⟩, ⟨qb2 HB.out GE162.out GE164.out⟩⟩
           ·rw [if_neg c18] at H
            have c18b0 : (((rd_T69 l0_1 x3_2).f0).toList == ([] : List UInt8)) = false := beq_eq_false_iff_ne.mpr c18; have c18b1 : (((rd_T69 l0_1 x3_2).f0).toList != ([] : List UInt8)) = true := bne_iff_ne.mpr c18
            (first | rw [c18b0] | (simp only [i64_w, i32_w]; rw [c18b0]) | skip)
            have H' := vA H; clear H; have hnb21 := NB164_162.out; have hnc21 := NB162_164.out; obtain ⟨hcz22_0, hcz22_1⟩ := v2c BK164.out; obtain ⟨hfz22_0, hfz22_1⟩ := v2f BK164.out
            go_wp2
            repeat (go_quiet (fail); try go_wp2)
            go_meet
            case rel => exact ⟨_, (false), qz, H', ⟨by have := HJ2.out; have := HK2.out; first | omega | exact Nat.le_refl _⟩, ⟨by refine qK ?_; refine blk_far ?_ NB162_164.out _; refine qK ?_; refine blk_far ?_ NB162_164.out _; refine qK ?_; exact BK162.out⟩, ⟨by refine qK ?_; refine blk_put (cs := #[.string ((rd_T69 l0_1 x3_2).f0), .int .i64 0]) ?_ 1 _ rfl; refine qK ?_; refine blk_put (cs := #[.string (⟨#[]⟩ : ByteArray), .int .i64 0]) ?_ 0 _ rfl; refine qK ?_; exact BK164.out⟩, ⟨qb2 HB.out GE162.out GE164.out⟩⟩
          case rest =>
           clear HC13
           (try clear c1); (try clear p1); (try clear q1); (try clear hx1); (try clear c2); (try clear p2); (try clear c3); (try clear c6); (try clear c6b0); (try clear c6b1); (try clear c9); (try clear c10); (try clear c10b0); (try clear c11); (try clear c11b0); (try clear c12); (try clear c12b0); (try clear c16); (try clear p16); (try clear q16); (try clear hx16); (try clear c18); (try clear c18b0); (try clear c18b1); (try clear c19); (try clear c21); (try clear hcz14_0); (try clear hcz14_1); (try clear hcz14_2); (try clear hcz17_0); (try clear hcz17_1); (try clear hcz20_0); (try clear hcz20_1); (try clear hcz22_0); (try clear hcz22_1); (try clear hcz5_0); (try clear hcz5_1); (try clear hcz5_2); (try clear hcz7_0); (try clear hcz7_1); (try clear hcz7_2); (try clear hcz8_0); (try clear hcz8_1); (try clear hcz8_2); (try clear hfz14_0); (try clear hfz14_1); (try clear hfz14_2); (try clear hfz17_0); (try clear hfz17_1); (try clear hfz20_0); (try clear hfz20_1); (try clear hfz22_0); (try clear hfz22_1); (try clear hfz5_0); (try clear hfz5_1); (try clear hfz5_2); (try clear hfz7_0); (try clear hfz7_1); (try clear hfz7_2); (try clear hfz8_0); (try clear hfz8_1); (try clear hfz8_2); (try clear hx163_0); (try clear hx163_1); (try clear p163); (try clear p2); (try clear q163)
           obtain ⟨kq, x44_12, rfl, HA, HJ12, BK162, BK164, HB⟩ := hcut
           cases kq with
           | zero => exact absurd HA.out (by simp [spec_BlockOk.j2])
           | succ kj12 =>
            have H := HA.out; clear HA
            simp only [spec_BlockOk.j2] at H
            by_cases c23 : x44_12 = true
            ·subst c23
             rw [if_pos rfl] at H; have H' := vA H; clear H
             go_wp2
             repeat (go_quiet (fail); try go_wp2)
             go_roundg kj12
             case measure => have := HJ2.out; have := HK2.out; have := HJ12.out; omega
             case rel => exact ⟨(wrap64 (x3_2 + 1)), qz, H', ⟨by have := HJ2.out; have := HK2.out; have := HJ12.out; omega⟩, ⟨qk BK162.out⟩, ⟨qb2 HB.out GE162.out GE164.out⟩⟩
            ·replace c23 := Bool.eq_false_iff.mpr c23
             subst c23
             rw [if_neg (show ¬ (false = true) by decide)] at H
             have HC24 := vA H; clear H
             go_upto_region 10 with (fail)
             repeat (go_quiet (fail); go_upto_region 10 with (fail))
             go_cut [54] (fun v54 wc => ∃ (kq : Nat) (x54_23 : Bool), v54 = .bool x54_23 ∧ Aside0 (spec_BlockOk.j3 kq x3_2 x54_23 true l0_1 a0_2 ((rd_T69 l0_1 x3_2).f0) ((rd_T69 l0_1 x3_2).f1) = some r) ∧ Aside0 (kq ≤ kj12) ∧ Aside0 (wc.heap[gb162]? = some (.cells #[.bool true, (.slice (some ad163) l0_1.length c0_1), .string a0_2] 59 (0, 0))) ∧ Aside0 (wc.heap[gb164]? = some (.cells #[.string ((rd_T69 l0_1 x3_2).f0), .int .i64 ((rd_T69 l0_1 x3_2).f1)] 69 (0, 0))) ∧ Aside0 (Below w.heap.size w wc))
             case first =>
              have H := HC24.out; clear HC24; replace H := Option.bind_eq_some_iff.mp H; obtain ⟨t165, A250, H⟩ := H; have A25 := vA A250; clear A250
              by_cases c26 : t165 = true
              ·subst c26
               rw [if_pos rfl] at H; replace H := Option.bind_eq_some_iff.mp H; obtain ⟨t166, A270, H⟩ := H; have A27 := vA A270; clear A270; have H' := vA H; clear H; have hnb28 := NB164_162.out; have hnc28 := NB162_164.out; obtain ⟨hcz29_0, hcz29_1⟩ := v2c BK164.out; obtain ⟨hfz29_0, hfz29_1⟩ := v2f BK164.out
               go_wp2_with (first | (go_at_call 41; (with_reducible refine (spec_NameOk.calls kj12 ((rd_T69 l0_1 x3_2).f0) true _ A25.out).mono ?_); rintro e w' ⟨rfl, ⟨nd, rfl⟩⟩; (try first | exact ⟨rfl, _, World.drewN_drewN _ _ _⟩ | exact ⟨rfl, _, Eq.trans (World.drewN_drewN _ _ _) (congrArg (World.drewN _) (Nat.add_assoc _ _ _))⟩)) | (go_at_call 93; (with_reducible refine (spec_l01In.calls ((rd_T69 l0_1 x3_2).f1) 1 8 t166 _ A27.out).mono ?_); rintro e w' ⟨rfl, ⟨nd, rfl⟩⟩; (try first | exact ⟨rfl, _, World.drewN_drewN _ _ _⟩ | exact ⟨rfl, _, Eq.trans (World.drewN_drewN _ _ _) (congrArg (World.drewN _) (Nat.add_assoc _ _ _))⟩)))
               repeat (go_quiet (first | (go_at_call 41; (with_reducible refine (spec_NameOk.calls kj12 ((rd_T69 l0_1 x3_2).f0) true _ A25.out).mono ?_); rintro e w' ⟨rfl, ⟨nd, rfl⟩⟩; (try first | exact ⟨rfl, _, World.drewN_drewN _ _ _⟩ | exact ⟨rfl, _, Eq.trans (World.drewN_drewN _ _ _) (congrArg (World.drewN _) (Nat.add_assoc _ _ _))⟩)) | (go_at_call 93; (with_reducible refine (spec_l01In.calls ((rd_T69 l0_1 x3_2).f1) 1 8 t166 _ A27.out).mono ?_); rintro e w' ⟨rfl, ⟨nd, rfl⟩⟩; (try first | exact ⟨rfl, _, World.drewN_drewN _ _ _⟩ | exact ⟨rfl, _, Eq.trans (World.drewN_drewN _ _ _) (congrArg (World.drewN _) (Nat.add_assoc _ _ _))⟩))); try go_wp2_with (first | (go_at_call 41; (with_reducible refine (spec_NameOk.calls kj12 ((rd_T69 l0_1 x3_2).f0) true _ A25.out).mono ?_); rintro e w' ⟨rfl, ⟨nd, rfl⟩⟩; (try first | exact ⟨rfl, _, World.drewN_drewN _ _ _⟩ | exact ⟨rfl, _, Eq.trans (World.drewN_drewN _ _ _) (congrArg (World.drewN _) (Nat.add_assoc _ _ _))⟩)) | (go_at_call 93; (with_reducible refine (spec_l01In.calls ((rd_T69 l0_1 x3_2).f1) 1 8 t166 _ A27.out).mono ?_); rintro e w' ⟨rfl, ⟨nd, rfl⟩⟩; (try first | exact ⟨rfl, _, World.drewN_drewN _ _ _⟩ | exact ⟨rfl, _, Eq.trans (World.drewN_drewN _ _ _) (congrArg (World.drewN _) (Nat.add_assoc _ _ _))⟩))))
               go_meet
               case rel => exact ⟨_, (!t166), qz, H', ⟨by have := HJ2.out; have := HK2.out; have := HJ12.out; first | omega | exact Nat.le_refl _⟩, ⟨qk BK162.out⟩, ⟨qk BK164.out⟩, ⟨qb2 HB.out GE162.out GE164.out⟩⟩
              ·replace c26 := Bool.eq_false_iff.mpr c26
               subst c26
               rw [if_neg (show ¬ (false = true) by decide)] at H
               have H' := vA H; clear H; have hnb30 := NB164_162.out; have hnc30 := NB162_164.out; obtain ⟨hcz31_0, hcz31_1⟩ := v2c BK164.out; obtain ⟨hfz31_0, hfz31_1⟩ := v2f BK164.out
               go_wp2_with (first | (go_at_call 41; (with_reducible refine (spec_NameOk.calls kj12 ((rd_T69 l0_1 x3_2).f0) false _ A25.out).mono ?_); rintro e w' ⟨rfl, ⟨nd, rfl⟩⟩; (try first | exact ⟨rfl, _, World.drewN_drewN _ _ _⟩ | exact ⟨rfl, _, Eq.trans (World.drewN_drewN _ _ _) (congrArg (World.drewN _) (Nat.add_assoc _ _ _))⟩)))
               repeat (go_quiet (first | (go_at_call 41; (with_reducible refine (spec_NameOk.calls kj12 ((rd_T69 l0_1 x3_2).f0) false _ A25.out).mono ?_); rintro e w' ⟨rfl, ⟨nd, rfl⟩⟩; (try first | exact ⟨rfl, _, World.drewN_drewN _ _ _⟩ | exact ⟨rfl, _, Eq.trans (World.drewN_drewN _ _ _) (congrArg (World.drewN _) (Nat.add_assoc _ _ _))⟩))); try go_wp2_with (first | (go_at_call 41; (with_reducible refine (spec_NameOk.calls kj12 ((rd_T69 l0_1 x3_2).f0) false _ A25.out).mono ?_); rintro e w' ⟨rfl, ⟨nd, rfl⟩⟩; (try first | exact ⟨rfl, _, World.drewN_drewN _ _ _⟩ | exact ⟨rfl, _, Eq.trans (World.drewN_drewN _ _ _) (congrArg (World.drewN _) (Nat.add_assoc _ _ _))⟩))))
               go_meet
               case rel => exact ⟨_, (true), qz, H', ⟨by have := HJ2.out; have := HK2.out; have := HJ12.out; first | omega | exact Nat.le_refl _⟩, ⟨qk BK162.out⟩, ⟨qk BK164.out⟩, ⟨qb2 HB.out GE162.out GE164.out⟩⟩
             case rest =>
              clear HC24
              (try clear c1); (try clear p1); (try clear q1); (try clear hx1); (try clear c2); (try clear p2); (try clear c3); (try clear c6); (try clear c6b0); (try clear c6b1); (try clear p6); (try clear c9); (try clear c10); (try clear c10b0); (try clear c11); (try clear c11b0); (try clear c12); (try clear c12b0); (try clear c16); (try clear p16); (try clear q16); (try clear hx16); (try clear c18); (try clear c18b0); (try clear c18b1); (try clear c19); (try clear c21); (try clear c23); (try clear c26); (try clear c28); (try clear c30); (try clear hcz14_0); (try clear hcz14_1); (try clear hcz14_2); (try clear hcz17_0); (try clear hcz17_1); (try clear hcz20_0); (try clear hcz20_1); (try clear hcz22_0); (try clear hcz22_1); (try clear hcz29_0); (try clear hcz29_1); (try clear hcz31_0); (try clear hcz31_1); (try clear hcz5_0); (try clear hcz5_1); (try clear hcz5_2); (try clear hcz7_0); (try clear hcz7_1); (try clear hcz7_2); (try clear hcz8_0); (try clear hcz8_1); (try clear hcz8_2); (try clear hfz14_0); (try clear hfz14_1); (try clear hfz14_2); (try clear hfz17_0); (try clear hfz17_1); (try clear hfz20_0); (try clear hfz20_1); (try clear hfz22_0); (try clear hfz22_1); (try clear hfz29_0); (try clear hfz29_1); (try clear hfz31_0); (try clear hfz31_1); (try clear hfz5_0); (try clear hfz5_1); (try clear hfz5_2); (try clear hfz7_0); (try clear hfz7_1); (try clear hfz7_2); (try clear hfz8_0); (try clear hfz8_1); (try clear hfz8_2); (try clear hx163_0); (try clear hx163_1); (try clear p1); (try clear p16); (try clear p163); (try clear p2); (try clear q1); (try clear q16); (try clear q163)
              obtain ⟨kq, x54_23, rfl, HA, HJ23, BK162, BK164, HB⟩ := hcut
              cases kq with
              | zero => exact absurd HA.out (by simp [spec_BlockOk.j3])
              | succ kj23 =>
               have H := HA.out; clear HA
               simp only [spec_BlockOk.j3] at H
               by_cases c32 : x54_23 = true
               ·subst c32
                rw [if_pos rfl] at H; obtain rfl := Option.some.inj H
                go_wp2
                repeat (go_quiet (fail); try go_wp2)
                go_ret
                exact ⟨qe, qb2 HB.out GE162.out GE164.out⟩
               ·replace c32 := Bool.eq_false_iff.mpr c32
                subst c32
                rw [if_neg (show ¬ (false = true) by decide)] at H
                have H' := vA H; clear H
                go_wp2
                repeat (go_quiet (fail); try go_wp2)
                go_loopg [5] kj23 (fun kq v5 w' => ∃ (x5_5 : Int), v5 = .int .i64 x5_5 ∧ Aside0 (spec_BlockOk.l1 kq x3_2 x5_5 true l0_1 a0_2 ((rd_T69 l0_1 x3_2).f0) ((rd_T69 l0_1 x3_2).f1) = some r) ∧ Aside0 (kq ≤ kj23) ∧ Aside0 (w'.heap[gb162]? = some (.cells #[.bool true, (.slice (some ad163) l0_1.length c0_1), .string a0_2] 59 (0, 0))) ∧ Aside0 (w'.heap[gb164]? = some (.cells #[.string ((rd_T69 l0_1 x3_2).f0), .int .i64 ((rd_T69 l0_1 x3_2).f1)] 69 (0, 0))) ∧ Aside0 (Below w.heap.size w w'))
                case atStart => exact ⟨(0), qz, H', ⟨Nat.le_refl _⟩, ⟨qk BK162.out⟩, ⟨qk BK164.out⟩, ⟨qb2 HB.out GE162.out GE164.out⟩⟩
                case round =>
                 clear H'
                 (try clear c1); (try clear p1); (try clear q1); (try clear hx1); (try clear c2); (try clear p2); (try clear c3); (try clear c6); (try clear c6b0); (try clear c6b1); (try clear p6); (try clear c9); (try clear c10); (try clear c10b0); (try clear c11); (try clear c11b0); (try clear c12); (try clear c12b0); (try clear c16); (try clear p16); (try clear q16); (try clear hx16); (try clear c18); (try clear c18b0); (try clear c18b1); (try clear c19); (try clear c21); (try clear c23); (try clear c26); (try clear c28); (try clear c30); (try clear c32); (try clear hcz14_0); (try clear hcz14_1); (try clear hcz14_2); (try clear hcz17_0); (try clear hcz17_1); (try clear hcz20_0); (try clear hcz20_1); (try clear hcz22_0); (try clear hcz22_1); (try clear hcz29_0); (try clear hcz29_1); (try clear hcz31_0); (try clear hcz31_1); (try clear hcz5_0); (try clear hcz5_1); (try clear hcz5_2); (try clear hcz7_0); (try clear hcz7_1); (try clear hcz7_2); (try clear hcz8_0); (try clear hcz8_1); (try clear hcz8_2); (try clear hfz14_0); (try clear hfz14_1); (try clear hfz14_2); (try clear hfz17_0); (try clear hfz17_1); (try clear hfz20_0); (try clear hfz20_1); (try clear hfz22_0); (try clear hfz22_1); (try clear hfz29_0); (try clear hfz29_1); (try clear hfz31_0); (try clear hfz31_1); (try clear hfz5_0); (try clear hfz5_1); (try clear hfz5_2); (try clear hfz7_0); (try clear hfz7_1); (try clear hfz7_2); (try clear hfz8_0); (try clear hfz8_1); (try clear hfz8_2); (try clear hx163_0); (try clear hx163_1); (try clear p1); (try clear p16); (try clear p163); (try clear p2); (try clear p6); (try clear q1); (try clear q16); (try clear q163)
                 obtain ⟨x5_5, rfl, HA, HK5, BK162, BK164, HB⟩ := hrel
                 cases gk with
                 | zero => exact absurd HA.out (by simp [spec_BlockOk.l1])
                 | succ k5 =>
                  have H := HA.out; clear HA
                  simp only [spec_BlockOk.l1] at H
                  by_cases c33 : x5_5 < x3_2
                  ·rw [if_pos c33] at H
                   have c33b0 : decide (x5_5 < x3_2) = true := decide_eq_true c33; clear c33
                   by_cases c34 : 0 ≤ x5_5
                   ·rw [if_pos c34] at H
                    have c34b0 : decide (0 ≤ x5_5) = true := decide_eq_true c34; clear c34
                    by_cases c35 : x5_5 < (l0_1.length : Int)
                    ·rw [if_pos c35] at H
                     have c35b0 : decide (x5_5 < (l0_1.length : Int)) = true := decide_eq_true c35; clear c35
                     by_cases c36 : ((rd_T69 l0_1 x5_5).f0).toList = ((rd_T69 l0_1 x3_2).f0).toList
                     ·rw [if_pos c36] at H
                      have c36b0 : (((rd_T69 l0_1 x5_5).f0).toList == ((rd_T69 l0_1 x3_2).f0).toList) = true := beq_iff_eq.mpr c36; have c36b1 : (((rd_T69 l0_1 x5_5).f0).toList != ((rd_T69 l0_1 x3_2).f0).toList) = false := bne_eq_false_iff_eq.mpr c36; clear c36; obtain rfl := Option.some.inj H; have hnb37 := NB162_164.out; have hnc37 := NB164_162.out; obtain ⟨hcz38_0, hcz38_1, hcz38_2⟩ := v3c BK162.out; obtain ⟨hfz38_0, hfz38_1, hfz38_2⟩ := v3f BK162.out; have p167 : 0 ≤ (x5_5 : Int) := qo; have q167 : x5_5 < (l0_1.length : Int) := qo; obtain ⟨ad167, e167, hx167_0, hx167_1⟩ := at_T69 HR0_1.out x5_5 p167 q167
                      obtain rfl : ad163 = ad167 := (by injection e167)
                      replace hx167_0 := qc HB.out hx167_0; replace hx167_1 := qc HB.out hx167_1; replace p167 := eq_true p167; replace q167 := eq_true q167; obtain ⟨hcz39_0, hcz39_1⟩ := v2c BK164.out; obtain ⟨hfz39_0, hfz39_1⟩ := v2f BK164.out
                      go_wp2
                      repeat (go_quiet (fail); try go_wp2)
                      go_ret
                      exact ⟨qe, qb2 HB.out GE162.out GE164.out⟩
                     ·rw [if_neg c36] at H
                      have c36b0 : (((rd_T69 l0_1 x5_5).f0).toList == ((rd_T69 l0_1 x3_2).f0).toList) = false := beq_eq_false_iff_ne.mpr c36; have c36b1 : (((rd_T69 l0_1 x5_5).f0).toList != ((rd_T69 l0_1 x3_2).f0).toList) = true := bne_iff_ne.mpr c36; have H' := vA H; clear H; have hnb40 := NB162_164.out; have hnc40 := NB164_162.out; obtain ⟨hcz41_0, hcz41_1, hcz41_2⟩ := v3c BK162.out; obtain ⟨hfz41_0, hfz41_1, hfz41_2⟩ := v3f BK162.out; have p167 : 0 ≤ (x5_5 : Int) := qo; have q167 : x5_5 < (l0_1.length : Int) := qo; obtain ⟨ad167, e167, hx167_0, hx167_1⟩ := at_T69 HR0_1.out x5_5 p167 q167
                      obtain rfl : ad163 = ad167 := (by injection e167)
                      replace hx167_0 := qc HB.out hx167_0; replace hx167_1 := qc HB.out hx167_1; replace p167 := eq_true p167; replace q167 := eq_true q167; obtain ⟨hcz42_0, hcz42_1⟩ := v2c BK164.out; obtain ⟨hfz42_0, hfz42_1⟩ := v2f BK164.out
                      go_wp2
                      repeat (go_quiet (fail); try go_wp2)
                      go_roundg k5
                      case measure => have := HJ2.out; have := HK2.out; have := HJ12.out; have := HJ23.out; have := HK5.out; omega
                      case rel => exact ⟨(wrap64 (x5_5 + 1)), qz, H', ⟨by have := HJ2.out; have := HK2.out; have := HJ12.out; have := HJ23.out; have := HK5.out; omega⟩, ⟨qk BK162.out⟩, ⟨qk BK164.out⟩, ⟨qb2 HB.out GE162.out GE164.out⟩⟩
                    ·rw [if_neg c35] at H
                     exact absurd H (by simp)
                   ·rw [if_neg c34] at H
                    exact absurd H (by simp)
                  ·rw [if_neg c33] at H
                   have c33b0 : decide (x5_5 < x3_2) = false := decide_eq_false c33; clear c33; have H' := vA H; clear H
                   go_wp2
                   repeat (go_quiet (fail); try go_wp2)
                   go_roundg k5
                   case measure => have := HJ2.out; have := HK2.out; have := HJ12.out; have := HJ23.out; have := HK5.out; omega
                   case rel => exact ⟨(wrap64 (x3_2 + 1)), qz, H', ⟨by have := HJ2.out; have := HK2.out; have := HJ12.out; have := HJ23.out; have := HK5.out; omega⟩, ⟨qk BK162.out⟩, ⟨qb2 HB.out GE162.out GE164.out⟩⟩
         ·rw [if_neg c12] at H
          exact absurd H (by simp)
        ·rw [if_neg c11] at H
         exact absurd H (by simp)
       ·rw [if_neg c10] at H
        have c10b0 : decide (x3_2 < 4) = false := decide_eq_false c10; clear c10; obtain rfl := Option.some.inj H
        go_wp2
        repeat (go_quiet (fail); try go_wp2)
        go_ret
        exact ⟨qe, qb1 HB.out GE162.out⟩
 ·replace c2 := Bool.eq_false_iff.mpr c2
  subst c2
  rw [if_neg (show ¬ (false = true) by decide)] at H
  by_cases c43 : (l0_1.length : Int) = 0
  ·rw [if_pos c43] at H
   have c43b0 : ((l0_1.length : Int) == 0) = true := beq_iff_eq.mpr c43; have c43b1 : ((l0_1.length : Int) != 0) = false := bne_eq_false_iff_eq.mpr c43; clear c43; obtain rfl := Option.some.inj H
   go_enter Try.func33, Try.ntmps33
   go_wp2_with (first | ((with_reducible refine gate_dst (N := 1) rfl ?_); (try (refine gate_guard (by rfl) ?_; dsimp only)); refine vx (N := 1) (cs := #[.bool false, .slice A0_1 l0_1.length c0_1, .string a0_2]) (t := 59) ?_; intro gb162 hg w44 hbox hb; have BK162 := vA (hbox); have GW162 := vA ((vg hg (qb HB.out))); have GE162 := GW162; replace HB := vbs HB hb; clear hb hbox hg; obtain ⟨hcz45_0, hcz45_1, hcz45_2⟩ := v3c BK162.out; obtain ⟨hfz45_0, hfz45_1, hfz45_2⟩ := v3f BK162.out))
   repeat (go_quiet (first | ((with_reducible refine gate_dst (N := 1) rfl ?_); (try (refine gate_guard (by rfl) ?_; dsimp only)); refine vx (N := 1) (cs := #[.bool false, .slice A0_1 l0_1.length c0_1, .string a0_2]) (t := 59) ?_; intro gb162 hg w44 hbox hb; have BK162 := vA (hbox); have GW162 := vA ((vg hg (qb HB.out))); have GE162 := GW162; replace HB := vbs HB hb; clear hb hbox hg; obtain ⟨hcz45_0, hcz45_1, hcz45_2⟩ := v3c BK162.out; obtain ⟨hfz45_0, hfz45_1, hfz45_2⟩ := v3f BK162.out)); try go_wp2_with (first | ((with_reducible refine gate_dst (N := 1) rfl ?_); (try (refine gate_guard (by rfl) ?_; dsimp only)); refine box_event ?hg (N := 1) ?hd (cs := #[.bool false, .slice A0_1 l0_1.length c0_1, .string a0_2]) (t := 59) ?hr ?_; (case hd => rfl); (case hg => rfl); (case hr => first | (go_simp; done) | (go_simp; rfl)); intro gb162 hg w44 hbox hb; have n0_ := Aside0.mk (below_step (qb HB.out) hb); have n1_ := Aside0.mk (hbox); have n2_ := Aside0.mk ((by rw [hg]; exact (below_size (qb HB.out)) : w.heap.size ≤ gb162)); have n3_ := Aside0.mk ((by rw [hg]; exact (below_size (qb HB.out)) : w.heap.size ≤ gb162)); clear HB; have HB := n0_; have BK162 := n1_; have GW162 := n2_; have GE162 := n3_; clear n0_ n1_ n2_ n3_; clear hb hbox hg; have hcz45_0 : w44.cell? ⟨gb162, 0, none⟩ = some (.bool false) := (blk_cell BK162.out 0).trans rfl; have hcz45_1 : w44.cell? ⟨gb162, 1, none⟩ = some (.slice A0_1 l0_1.length c0_1) := (blk_cell BK162.out 1).trans rfl; have hcz45_2 : w44.cell? ⟨gb162, 2, none⟩ = some (.string a0_2) := (blk_cell BK162.out 2).trans rfl; have hfz45_0 := blk_frozen BK162.out 0; have hfz45_1 := blk_frozen BK162.out 1; have hfz45_2 := blk_frozen BK162.out 2)))
   go_ret
   exact ⟨qe, qb1 HB.out GE162.out⟩
  ·rw [if_neg c43] at H
   have c43b0 : ((l0_1.length : Int) == 0) = false := beq_eq_false_iff_ne.mpr c43; have c43b1 : ((l0_1.length : Int) != 0) = true := bne_iff_ne.mpr c43
   have c43b2 : ¬ (l0_1 = []) := fun h_ => c43 (by rw [h_]; rfl)
   obtain rfl := Option.some.inj H
   go_enter Try.func33, Try.ntmps33
   go_wp2_with (first | ((with_reducible refine gate_dst (N := 1) rfl ?_); (try (refine gate_guard (by rfl) ?_; dsimp only)); refine vx (N := 1) (cs := #[.bool false, .slice A0_1 l0_1.length c0_1, .string a0_2]) (t := 59) ?_; intro gb162 hg w46 hbox hb; have BK162 := vA (hbox); have GW162 := vA ((vg hg (qb HB.out))); have GE162 := GW162; replace HB := vbs HB hb; clear hb hbox hg; obtain ⟨hcz47_0, hcz47_1, hcz47_2⟩ := v3c BK162.out; obtain ⟨hfz47_0, hfz47_1, hfz47_2⟩ := v3f BK162.out))
   repeat (go_quiet (first | ((with_reducible refine gate_dst (N := 1) rfl ?_); (try (refine gate_guard (by rfl) ?_; dsimp only)); refine vx (N := 1) (cs := #[.bool false, .slice A0_1 l0_1.length c0_1, .string a0_2]) (t := 59) ?_; intro gb162 hg w46 hbox hb; have BK162 := vA (hbox); have GW162 := vA ((vg hg (qb HB.out))); have GE162 := GW162; replace HB := vbs HB hb; clear hb hbox hg; obtain ⟨hcz47_0, hcz47_1, hcz47_2⟩ := v3c BK162.out; obtain ⟨hfz47_0, hfz47_1, hfz47_2⟩ := v3f BK162.out)); try go_wp2_with (first | ((with_reducible refine gate_dst (N := 1) rfl ?_); (try (refine gate_guard (by rfl) ?_; dsimp only)); refine box_event ?hg (N := 1) ?hd (cs := #[.bool false, .slice A0_1 l0_1.length c0_1, .string a0_2]) (t := 59) ?hr ?_; (case hd => rfl); (case hg => rfl); (case hr => first | (go_simp; done) | (go_simp; rfl)); intro gb162 hg w46 hbox hb; have n0_ := Aside0.mk (below_step (qb HB.out) hb); have n1_ := Aside0.mk (hbox); have n2_ := Aside0.mk ((by rw [hg]; exact (below_size (qb HB.out)) : w.heap.size ≤ gb162)); have n3_ := Aside0.mk ((by rw [hg]; exact (below_size (qb HB.out)) : w.heap.size ≤ gb162)); clear HB; have HB := n0_; have BK162 := n1_; have GW162 := n2_; have GE162 := n3_; clear n0_ n1_ n2_ n3_; clear hb hbox hg; have hcz47_0 : w46.cell? ⟨gb162, 0, none⟩ = some (.bool false) := (blk_cell BK162.out 0).trans rfl; have hcz47_1 : w46.cell? ⟨gb162, 1, none⟩ = some (.slice A0_1 l0_1.length c0_1) := (blk_cell BK162.out 1).trans rfl; have hcz47_2 : w46.cell? ⟨gb162, 2, none⟩ = some (.string a0_2) := (blk_cell BK162.out 2).trans rfl; have hfz47_0 := blk_frozen BK162.out 0; have hfz47_1 := blk_frozen BK162.out 1; have hfz47_2 := blk_frozen BK162.out 2)))
   go_ret
   exact ⟨qe, qb1 HB.out GE162.out⟩

end Go.Proofs.Ytdnbpapolckklaa.PFnExactDiskOf
