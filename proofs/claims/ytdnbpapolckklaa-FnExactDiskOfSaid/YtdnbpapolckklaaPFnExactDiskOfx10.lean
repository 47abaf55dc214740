-- Written by a program of this session (a changed copy of the kit's print: wip/print2). Lean checks it.
import Derived.Test.YtdnbpapolckklaaPax
import Derived.Test.YtdnbpapolckklaaPFnExactDiskOfx0
import Derived.Test.YtdnbpapolckklaaPFnExactDiskOfx8
import Derived.Test.YtdnbpapolckklaaPFnExactDiskOfx9
namespace Go.Proofs.Ytdnbpapolckklaa.PFnExactDiskOf
open Go.RowKit Go.Proofs.YtdnbpapolckklaaW.PrintWords Go.Proofs.YtdnbpapolckklaaW.PrintLast Go.Proofs.YtdnbpapolckklaaW.PrintMore
attribute [local go_sem] max2_int min2_int max_two min_two max_three min_three max_four min_four   -- for this text's walks alone
attribute [local go_sem] Go.Proofs.Ytdnbpapolckklaa.Pad.isSome_setCell
set_option linter.unusedVariables false
set_option linter.unusedSimpArgs false

/-! ### spec_ReadBlock: function 44 -/
mutual
def spec_ReadBlock.j2 : Nat → ByteArray → Bool → List (S69) → ByteArray → Option (Bool × (List (S69)) × ByteArray × Bool)
 | 0, _, _, _, _ => none
 | k + 1, x0, x193000, x193001, x193002 => (spec_BlockText.f k x193000 x193001 x193002).bind fun bt199 => (if bt199.2 = true then (if bt199.1.toList = x0.toList then (some (x193000, x193001, x193002, true)) else (some (false, ([] : List (S69)), (⟨#[]⟩ : ByteArray), false))) else (some (false, ([] : List (S69)), (⟨#[]⟩ : ByteArray), false)))
def spec_ReadBlock.l0 : Nat → ByteArray → Int → Int → Bool → List (S69) → ByteArray → Option (Bool × (List (S69)) × ByteArray × Bool)
 | 0, _, _, _, _, _, _ => none
 | k + 1, x0, x5, x6, x193000, x193001, x193002 => if x6 < 4 then (spec_ReadBlock.j1 k x0 x5 x6 (decide (x5 < (x0.size : Int))) x193000 x193001 x193002) else (spec_ReadBlock.j1 k x0 x5 x6 false x193000 x193001 x193002)
def spec_ReadBlock.j1 : Nat → ByteArray → Int → Int → Bool → Bool → List (S69) → ByteArray → Option (Bool × (List (S69)) × ByteArray × Bool)
 | 0, _, _, _, _, _, _, _ => none
 | k + 1, x0, x5, x6, x29, x193000, x193001, x193002 => if x29 = true then ((spec_ReadShort.f k x0 (wrap64 (x5 + 1))).bind fun bt193 => (if bt193.2.2 = true then (if 0 ≤ x5 then (if x5 < (x0.size : Int) then (if x193001.length < 5864062014805 then (spec_ReadBlock.l0 k x0 bt193.2.1 (wrap64 (x6 + 1)) x193000 (x193001 ++ [(⟨bt193.1, wrap64 (bt x0 x5)⟩ : S69)]) x193002) else (none)) else (none)) else (none)) else (some (false, ([] : List (S69)), (⟨#[]⟩ : ByteArray), false)))) else (spec_ReadBlock.j2 k x0 x193000 x193001 x193002)
end
def spec_ReadBlock.f (k : Nat) (a0 : ByteArray) : Option (Bool × (List (S69)) × ByteArray × Bool) := if a0.toList = ([] : List UInt8) then (some (false, ([] : List (S69)), (⟨#[]⟩ : ByteArray), false)) else (if 1 ≤ (a0.size : Int) then (if 0 < (a0.size : Int) then (if (bt a0 0) = 100 then (spec_ReadBlock.l0 k a0 1 0 true ([] : List (S69)) (⟨#[]⟩ : ByteArray)) else (spec_ReadBlock.j2 k a0 false ([] : List (S69)) (a0.extract 1 a0.size))) else (none)) else (none))
def spec_ReadBlock.T13 : Bool × List (List Nat × List Nat) := (true, [([], []), ([0], [0]), ([], []), ([], []), ([], []), ([3, 4], [3, 4]), ([5], [5]), ([2, 6], [2, 6]), ([7], [7]), ([1, 8], [1, 8]), ([0, 1, 2, 3, 4, 5, 6, 7, 8, 9], []), ([10, 9, 9, 0, 1, 2, 3, 4, 5, 6, 7, 8, 9], [9, 10])])
def spec_ReadBlock.B13 : List Nat := [0, 1, 0, 0, 0, 24, 56, 124, 252, 511, 1023, 2047]
theorem spec_ReadBlock.tab13 : rtab .any (opsOf Try.f44 13) = spec_ReadBlock.T13 := by kernel_rfl
theorem spec_ReadBlock.bits13 : waitsOk spec_ReadBlock.T13.2 spec_ReadBlock.B13 = true := by kernel_rfl
set_option maxHeartbeats 8000000 in
set_option maxRecDepth 100000 in
theorem spec_ReadBlock.calls (k : Nat) (a0 : ByteArray) (r1 : Bool) (r2 : List (S69)) (r3 : ByteArray) (r4 : Bool) (w : World) (h : spec_ReadBlock.f k a0 = some (r1, r2, r3, r4)) :
  Calls Try.prog 44 #[.string a0] w fun e w' => ∃ v1_ : Value, e = .returned (.tuple #[.agg #[.bool r1, v1_, .string r3], .bool r4]) ∧ Kd.R k69 69 w' w.heap.size (fun _ => True) v1_ r2 ∧ Below w.heap.size w w' := by
 have hu59 := Try.underlying59
 have hu69 := Try.underlying69
 have HB := vA (Below.refl w.heap.size w)
 have H : (if a0.toList = ([] : List UInt8) then (some (false, ([] : List (S69)), (⟨#[]⟩ : ByteArray), false)) else (if 1 ≤ (a0.size : Int) then (if 0 < (a0.size : Int) then (if (bt a0 0) = 100 then (spec_ReadBlock.l0 k a0 1 0 true ([] : List (S69)) (⟨#[]⟩ : ByteArray)) else (spec_ReadBlock.j2 k a0 false ([] : List (S69)) (a0.extract 1 a0.size))) else (none)) else (none))) = some (r1, r2, r3, r4) := h
 clear h
 by_cases c2 : a0.toList = ([] : List UInt8)
 ·rw [if_pos c2] at H
  have c2b0 : (a0.toList == ([] : List UInt8)) = true := beq_iff_eq.mpr c2; have c2b1 : (a0.toList != ([] : List UInt8)) = false := bne_eq_false_iff_eq.mpr c2; clear c2
  simp only [Option.some.injEq, Prod.mk.injEq] at H
  obtain ⟨rfl, rfl, rfl, rfl⟩ := H
  go_enter Try.func44, Try.ntmps44
  go_wp2_with (first | ((with_reducible refine gate_dst (N := 2) rfl ?_); (try (refine gate_guard (by rfl) ?_; dsimp only)); refine vx (N := 2) (cs := #[.bool false, .slice none 0 0, .string (⟨#[]⟩ : ByteArray)]) (t := 59) ?_; intro gb191 hg w3 hbox hb; have BK191 := vA (hbox); have GW191 := vA ((vg hg (qb HB.out))); have GE191 := GW191; replace HB := vbs HB hb; clear hb hbox hg; obtain ⟨hcz4_0, hcz4_1, hcz4_2⟩ := v3c BK191.out; obtain ⟨hfz4_0, hfz4_1, hfz4_2⟩ := v3f BK191.out))
  refine bodyPost_ret (results_ct rfl _ _ gb191 59 #[.bool false, .slice none 0 0, .string (⟨#[]⟩ : ByteArray)] (0, 0) _ rfl (blk_put (blk_put (blk_put BK191.out 0 _ rfl) 1 _ rfl) 2 _ rfl) Try.underlying59 rfl (by kernel_rfl)) rfl ?_
  exact ⟨_, qe, by first | exact Kd.R_nil _ _ _ _ _ | exact Kd.N_nil _ _ _ _ _ | exact Kd.V_nil _ _ _ _ _ | exact Kd.Q_nil _ _ _ _ _ | exact Kd.S_nil _ _ _ _ _, qb1 HB.out GE191.out⟩
 ·rw [if_neg c2] at H
  have c2b0 : (a0.toList == ([] : List UInt8)) = false := beq_eq_false_iff_ne.mpr c2; have c2b1 : (a0.toList != ([] : List UInt8)) = true := bne_iff_ne.mpr c2
  by_cases c5 : 1 ≤ (a0.size : Int)
  ·rw [if_pos c5] at H
   have c5b0 := eq_true c5; have c5b1 : decide (1 ≤ (a0.size : Int)) = true := decide_eq_true c5; clear c5
   by_cases c6 : 0 < (a0.size : Int)
   ·rw [if_pos c6] at H
    have c6b0 : decide (0 < (a0.size : Int)) = true := decide_eq_true c6
    have c6b1 : decide (0 < a0.size) = true := decide_eq_true (by omega)
    clear c6; have HC8 := vA H; clear H
    go_enter Try.func44, Try.ntmps44
    go_upto_if 20 with (first | ((with_reducible refine gate_dst (N := 2) rfl ?_); (try (refine gate_guard (by rfl) ?_; dsimp only)); refine vx (N := 2) (cs := #[.bool false, .slice none 0 0, .string (⟨#[]⟩ : ByteArray)]) (t := 59) ?_; intro gb191 hg w9 hbox hb; have BK191 := vA (hbox); have GW191 := vA ((vg hg (qb HB.out))); have GE191 := GW191; replace HB := vbs HB hb; clear hb hbox hg) | ((with_reducible refine gate_dst (N := 4) rfl ?_); (try (refine gate_guard (by rfl) ?_; dsimp only)); refine vx (N := 4) (cs := #[.bool false, .slice none 0 0, .string (⟨#[]⟩ : ByteArray)]) (t := 59) ?_; intro gb192 hg w10 hbox hb; have BK192 := vA (hbox); have GW192 := vA ((vg hg (vh HB))); have GE192 := GW192; replace HB := vbs HB hb; have NB191_192 := vn hg BK191; have NB192_191 := vN hg BK191; replace BK191 := vw BK191 hb; clear hb hbox hg; have hnb11 := NB192_191.out; have hnc11 := NB191_192.out; obtain ⟨hcz12_0, hcz12_1, hcz12_2⟩ := v3c BK192.out; obtain ⟨hfz12_0, hfz12_1, hfz12_2⟩ := v3f BK192.out; have p7 : 0 ≤ (0 : Int) := (by omega); have q7 : 0 < a0.size := (by have : (0 : Int) < (a0.size : Int) := qo; omega); have hx7 : ∀ h : 0 < a0.size, ((a0[0]'h).toNat : Int) = bt a0 0 := bt_at a0 0; clear p7; have qi7 : (0 < (a0.size : Int)) = True := eq_true qo; replace q7 := eq_true q7))
    (try simp only [Act.put, List.setIfInBounds_toArray, List.set_cons_zero, List.set_cons_succ])
    go_cut [] (fun wc => ∃ (kq : Nat) (x192000_7 : Bool) (x192002_7 : ByteArray) (x193000_7 : Bool) (x193001_7 : List (S69)) (x193002_7 : ByteArray) (u193001 : Value), Aside0 (spec_ReadBlock.j2 kq a0 x193000_7 x193001_7 x193002_7 = some (r1, r2, r3, r4)) ∧ Aside0 (kq ≤ k) ∧ Aside0 (Kd.R k69 69 wc w.heap.size (fun _ => True) u193001 x193001_7) ∧ Aside0 (wc.heap[gb191]? = some (.cells #[.bool x192000_7, (.slice none 0 0), .string x192002_7] 59 (0, 0))) ∧ Aside0 (wc.heap[gb192]? = some (.cells #[.bool x193000_7, u193001, .string x193002_7] 59 (0, 0))) ∧ Aside0 (Below w.heap.size w wc))
    case first =>
     have H := HC8.out; clear HC8
     by_cases c13 : (bt a0 0) = 100
     ·rw [if_pos c13] at H
      have c13b0 : ((bt a0 0) == 100) = true := beq_iff_eq.mpr c13; have c13b1 : ((bt a0 0) != 100) = false := bne_eq_false_iff_eq.mpr c13; clear c13
      (first | rw [c13b0] | (simp only [i64_w, i32_w]; rw [c13b0]) | skip)
      have H' := vA H; clear H; have hnb14 := NB192_191.out; have hnc14 := NB191_192.out; obtain ⟨hcz15_0, hcz15_1, hcz15_2⟩ := v3c BK192.out; obtain ⟨hfz15_0, hfz15_1, hfz15_2⟩ := v3f BK192.out
      go_wp2
      go_loopg [5, 6] k (fun kq v5 v6 w' => ∃ (x5_1 : Int) (x6_1 : Int) (x192000_1 : Bool) (x192002_1 : ByteArray) (x193001_1 : List (S69)) (u193001 : Value), v5 = .int .i64 x5_1 ∧ v6 = .int .i64 x6_1 ∧ Aside0 (spec_ReadBlock.l0 kq a0 x5_1 x6_1 true x193001_1 (⟨#[]⟩ : ByteArray) = some (r1, r2, r3, r4)) ∧ Aside0 (kq ≤ k) ∧ Aside0 (Kd.R k69 69 w' w.heap.size (fun _ => True) u193001 x193001_1) ∧ Aside0 (w'.heap[gb191]? = some (.cells #[.bool x192000_1, (.slice none 0 0), .string x192002_1] 59 (0, 0))) ∧ Aside0 (w'.heap[gb192]? = some (.cells #[.bool true, u193001, .string (⟨#[]⟩ : ByteArray)] 59 (0, 0))) ∧ Aside0 (Below w.heap.size w w'))
      case atStart => exact ⟨(1), (0), (false), ((⟨#[]⟩ : ByteArray)), (([] : List (S69))), (.slice none 0 0), qz, qz, H', ⟨Nat.le_refl _⟩, ⟨by first | exact Kd.R_nil _ _ _ _ _ | exact Kd.N_nil _ _ _ _ _ | exact Kd.V_nil _ _ _ _ _ | exact Kd.Q_nil _ _ _ _ _ | exact Kd.S_nil _ _ _ _ _⟩, ⟨by refine qK ?_; refine blk_far ?_ NB191_192.out _; refine qK ?_; refine blk_far ?_ NB191_192.out _; refine qK ?_; refine blk_far ?_ NB191_192.out _; refine qK ?_; refine blk_far ?_ NB191_192.out _; refine qK ?_; refine blk_far ?_ NB191_192.out _; refine qK ?_; refine blk_far ?_ NB191_192.out _; refine qK ?_; exact BK191.out⟩, ⟨by refine qK ?_; refine blk_put (cs := #[.bool true, .slice none 0 0, .string (a0.extract 1 a0.size)]) ?_ 2 _ rfl; refine qK ?_; refine blk_put (cs := #[.bool true, .slice none 0 0, .string (a0.extract 1 a0.size)]) ?_ 1 _ rfl; refine qK ?_; refine blk_put (cs := #[.bool false, .slice none 0 0, .string (a0.extract 1 a0.size)]) ?_ 0 _ rfl; refine qK ?_; refine blk_put (cs := #[.bool false, .slice none 0 0, .string (⟨#[]⟩ : ByteArray)]) ?_ 2 _ rfl; refine qK ?_; refine blk_put (cs := #[.bool false, .slice none 0 0, .string (⟨#[]⟩ : ByteArray)]) ?_ 1 _ rfl; refine qK ?_; refine blk_put (cs := #[.bool false, .slice none 0 0, .string (⟨#[]⟩ : ByteArray)]) ?_ 0 _ rfl; refine qK ?_; exact BK192.out⟩, ⟨qb2 HB.out GE191.out GE192.out⟩⟩
      case round =>
       clear H'
       (try clear c1); (try clear c2); (try clear c2b0); (try clear c2b1); (try clear p2); (try clear c4); (try clear c5); (try clear c5b0); (try clear c5b1); (try clear c6); (try clear c6b0); (try clear c6b1); (try clear p7); (try clear q7); (try clear hx7); (try clear qi7); (try clear c11); (try clear c13); (try clear c13b0); (try clear c13b1); (try clear c14); (try clear hcz12_0); (try clear hcz12_1); (try clear hcz12_2); (try clear hcz15_0); (try clear hcz15_1); (try clear hcz15_2); (try clear hcz4_0); (try clear hcz4_1); (try clear hcz4_2); (try clear hfz12_0); (try clear hfz12_1); (try clear hfz12_2); (try clear hfz15_0); (try clear hfz15_1); (try clear hfz15_2); (try clear hfz4_0); (try clear hfz4_1); (try clear hfz4_2); (try clear p7); (try clear q7)
       obtain ⟨x5_1, x6_1, x192000_1, x192002_1, x193001_1, u193001, rfl, rfl, HA, HK1, HO_193001, BK191, BK192, HB⟩ := hrel
       cases gk with
       | zero => exact absurd HA.out (by simp [spec_ReadBlock.l0])
       | succ k1 =>
        have H := HA.out; clear HA
        simp only [spec_ReadBlock.l0] at H
        have HC16 := vA H; clear H
        go_upto_region 8 with (fail)
        go_cut [29] (fun v29 wc => ∃ (kq : Nat) (x29_15 : Bool), v29 = .bool x29_15 ∧ Aside0 (spec_ReadBlock.j1 kq a0 x5_1 x6_1 x29_15 true x193001_1 (⟨#[]⟩ : ByteArray) = some (r1, r2, r3, r4)) ∧ Aside0 (kq ≤ k1) ∧ Aside0 (Kd.R k69 69 wc w.heap.size (fun _ => True) u193001 x193001_1) ∧ Aside0 (wc.heap[gb191]? = some (.cells #[.bool x192000_1, (.slice none 0 0), .string x192002_1] 59 (0, 0))) ∧ Aside0 (wc.heap[gb192]? = some (.cells #[.bool true, u193001, .string (⟨#[]⟩ : ByteArray)] 59 (0, 0))) ∧ Aside0 (Below w.heap.size w wc))
        case first =>
         have H := HC16.out; clear HC16
         by_cases c17 : x6_1 < 4
         ·rw [if_pos c17] at H
          have c17b0 : decide (x6_1 < 4) = true := decide_eq_true c17; clear c17
          (first | rw [c17b0] | (simp only [i64_w, i32_w]; rw [c17b0]) | skip)
          have H' := vA H; clear H
          go_wp2
          go_meet
          case rel => exact ⟨_, (decide (x5_1 < (a0.size : Int))), qz, H', ⟨by have := HK1.out; first | omega | exact Nat.le_refl _⟩, ⟨qr HO_193001.out⟩, ⟨qk BK191.out⟩, ⟨qk BK192.out⟩, ⟨qb2 HB.out GE191.out GE192.out⟩⟩
         ·rw [if_neg c17] at H
          have c17b0 : decide (x6_1 < 4) = false := decide_eq_false c17; clear c17
          (first | rw [c17b0] | (simp only [i64_w, i32_w]; rw [c17b0]) | skip)
          have H' := vA H; clear H
          go_wp2
          go_meet
          case rel => exact ⟨_, (false), qz, H', ⟨by have := HK1.out; first | omega | exact Nat.le_refl _⟩, ⟨qr HO_193001.out⟩, ⟨qk BK191.out⟩, ⟨qk BK192.out⟩, ⟨qb2 HB.out GE191.out GE192.out⟩⟩
        case rest =>
         clear HC16
         (try clear c1); (try clear c2); (try clear c2b0); (try clear c2b1); (try clear p2); (try clear c4); (try clear c5); (try clear c5b0); (try clear c5b1); (try clear c6); (try clear c6b0); (try clear c6b1); (try clear p7); (try clear q7); (try clear hx7); (try clear qi7); (try clear c11); (try clear c13); (try clear c13b0); (try clear c13b1); (try clear c14); (try clear c17); (try clear c17b0); (try clear hcz12_0); (try clear hcz12_1); (try clear hcz12_2); (try clear hcz15_0); (try clear hcz15_1); (try clear hcz15_2); (try clear hcz4_0); (try clear hcz4_1); (try clear hcz4_2); (try clear hfz12_0); (try clear hfz12_1); (try clear hfz12_2); (try clear hfz15_0); (try clear hfz15_1); (try clear hfz15_2); (try clear hfz4_0); (try clear hfz4_1); (try clear hfz4_2); (try clear p2); (try clear p7); (try clear q7)
         obtain ⟨kq, x29_15, rfl, HA, HJ15, HO_193001, BK191, BK192, HB⟩ := hcut
         cases kq with
         | zero => exact absurd HA.out (by simp [spec_ReadBlock.j1])
         | succ kj15 =>
          have H := HA.out; clear HA
          simp only [spec_ReadBlock.j1] at H
          by_cases c18 : x29_15 = true
          ·subst c18
           rw [if_pos rfl] at H; replace H := Option.bind_eq_some_iff.mp H; obtain ⟨⟨t193, t194, t195⟩, A190, H⟩ := H
           dsimp only at H
           have A19 := vA A190; clear A190
           by_cases c20 : t195 = true
           ·subst c20
            rw [if_pos rfl] at H
            by_cases c21 : 0 ≤ x5_1
            ·rw [if_pos c21] at H
             have c21b0 : decide (0 ≤ x5_1) = true := decide_eq_true c21; clear c21
             by_cases c22 : x5_1 < (a0.size : Int)
             ·rw [if_pos c22] at H
              have c22b0 : decide (x5_1 < (a0.size : Int)) = true := decide_eq_true c22; clear c22
              by_cases c24 : x193001_1.length < 5864062014805
              ·rw [if_pos c24] at H
               have LMc24 := vA c24; clear c24; obtain ⟨y196, hy196⟩ : ∃ y_ : List (S69), y_ = (x193001_1 ++ [(⟨t193, wrap64 (bt a0 x5_1)⟩ : S69)]) := ⟨_, rfl⟩
               first | rw [Option.bind_some, ← hy196] at H | rw [← hy196] at H
               have Ny196 := vA hy196; clear hy196; have H' := vA H; clear H
               try go_wp2_with (first | ((with_reducible refine gate_callee (f := 104) rfl ?_); refine goesL_ (some 36) rfl rfl Try.func104 (by kernel_rfl) rfl #[.string a0, .int .i64 (wrap64 (x5_1 + 1))] rfl qm ?_; (with_reducible refine (spec_ReadShort.calls kj15 a0 (wrap64 (x5_1 + 1)) t193 t194 true _ A19.out).mono ?_); rintro e w25 ⟨rfl, hb⟩; refine ⟨_, rfl, ?_⟩; replace HO_193001 := vrb HO_193001 hb; replace BK191 := vw BK191 hb; replace BK192 := vw BK192 hb; replace HB := vbs HB hb; clear hb))
               replace HO_193001 := vA (Kd.R_drew HO_193001.out); replace BK191 := vA (blk_drew BK191.out); replace BK192 := vA (blk_drew BK192.out); replace HB := vA (below_drew1 HB.out); have p23 : 0 ≤ (x5_1 : Int) := qo; have q23 : x5_1 < (a0.size : Int) := qo; have hx23 := bt_at a0 x5_1; replace p23 := eq_true p23; replace q23 := eq_true q23
               refine start_ (n := 12) (S := fun w' => w'.cell? ⟨gb192, 0, none⟩ = some (.bool true) ∧ w'.cell? ⟨gb192, 1, none⟩ = some (u193001) ∧ w'.cell? ⟨gb192, 2, none⟩ = some (.string (⟨#[]⟩ : ByteArray))) (ds := [11]) #[false, false, false, false, false, false, false, false, false, false, false, false] (by kernel_rfl) rfl rfl ⟨(blk_cell BK192.out 0).trans rfl, (blk_cell BK192.out 1).trans rfl, (blk_cell BK192.out 2).trans rfl⟩ (fun hHeld => ?_); refine with_tabW spec_ReadBlock.tab13 spec_ReadBlock.bits13 (fun HT_ HW_ => ?_)
               generalize w25.drew = w26 at HO_193001 BK191 BK192 HB hHeld ⊢
               refine pure_ (i := 0) (N := some 43) (v := ?_) (a' := ?_) #[true, false, false, false, false, false, false, false, false, false, false, false] rfl rfl (any_of HT_.out (by kernel_rfl)) (fun _ _ _ h => h) (Or.inl ⟨by rfl, ?_⟩) ?_ ?_
               rotate_left
               ·intro w'
                go_simp
                with_reducible rfl
               rotate_left
               ·refine qp ?_
                rfl
               refine pure_ (i := 2) (N := some 45) (v := ?_) (a' := ?_) #[true, false, true, false, false, false, false, false, false, false, false, false] rfl rfl (any_of HT_.out (by kernel_rfl)) (fun _ _ _ h => h) (Or.inl ⟨by rfl, ?_⟩) ?_ ?_
               rotate_left
               ·intro w'
                go_simp
                with_reducible rfl
               rotate_left
               ·refine qp ?_
                rfl
               refine pure_ (i := 3) (N := some 46) (v := ?_) (a' := ?_) #[true, false, true, true, false, false, false, false, false, false, false, false] rfl rfl (any_of HT_.out (by kernel_rfl)) (fun _ _ _ h => h) (Or.inl ⟨by rfl, ?_⟩) ?_ ?_
               rotate_left
               ·intro w'
                go_simp
                with_reducible rfl
               rotate_left
               ·refine qp ?_
                rfl
               refine pure_ (i := 4) (N := some 47) (v := ?_) (a' := ?_) #[true, false, true, true, true, false, false, false, false, false, false, false] rfl rfl (any_of HT_.out (by kernel_rfl)) (fun _ _ _ h => h) (Or.inl ⟨by rfl, ?_⟩) ?_ ?_
               rotate_left
               ·intro w'
                go_simp
                with_reducible rfl
               rotate_left
               ·refine qp ?_
                rfl
               refine take_ (i := 1) (N := some 44) (v := ?_) (a' := ?_) #[true, true, true, true, true, false, false, false, false, false, false, false] rfl rfl (take_ofW HT_.out HW_.out (by kernel_rfl)) (fun _ _ _ h => h) (Or.inl ⟨by rfl, ?_⟩) hHeld ?_ ?_
               rotate_left
               ·rintro w' ⟨s0, s1, s2⟩
                go_simp
                with_reducible rfl
               rotate_left
               ·refine qp ?_
                rfl
               refine take_ (i := 5) (N := some 48) (v := ?_) (a' := ?_) #[true, true, true, true, true, true, false, false, false, false, false, false] rfl rfl (take_ofW HT_.out HW_.out (by kernel_rfl)) (fun _ _ _ h => h) (Or.inl ⟨by rfl, ?_⟩) hHeld ?_ ?_
               rotate_left
               ·rintro w' ⟨s0, s1, s2⟩
                go_simp
                with_reducible rfl
               rotate_left
               ·refine qp ?_
                rfl
               refine pure_ (i := 6) (N := some 49) (v := ?_) (a' := ?_) #[true, true, true, true, true, true, true, false, false, false, false, false] rfl rfl (any_of HT_.out (by kernel_rfl)) (fun _ _ _ h => h) (Or.inl ⟨by rfl, ?_⟩) ?_ ?_
               rotate_left
               ·intro w'
                go_simp
                with_reducible rfl
               rotate_left
               ·refine qp ?_
                rfl
               refine pure_ (i := 7) (N := some 50) (v := ?_) (a' := ?_) #[true, true, true, true, true, true, true, true, false, false, false, false] rfl rfl (any_of HT_.out (by kernel_rfl)) (fun _ _ _ h => h) (Or.inl ⟨by rfl, ?_⟩) ?_ ?_
               rotate_left
               ·intro w'
                go_simp
                with_reducible rfl
               rotate_left
               ·refine qp ?_
                rfl
               refine one_ (i := 8) (N := some 51) #[true, true, true, true, true, true, true, true, true, false, false, false] rfl rfl (one_of HT_.out (by kernel_rfl)) (by decide) (fun K hK => ?_)
               refine value_ (w1 := ?_) (v := ?_) (by rfl) rfl ?_ ?_
               rotate_left 2
               ·go_simp
                constructor
                ·rfl
                ·rfl
               refine hK.out _ _ ⟨(blk_cell (blk_alloc BK192.out _) 0).trans rfl, (blk_cell (blk_alloc BK192.out _) 1).trans rfl, (blk_cell (blk_alloc BK192.out _) 2).trans rfl⟩ (fun hHeld => ?_)
               clear hK K; refine norm_ (a' := ?_) ?_ ?_; rotate_left
               ·show Act.put _ (some 51) _ = _
                refine qp ?_
                rfl
               refine one_ (i := 9) (N := some 52) #[true, true, true, true, true, true, true, true, true, true, false, false] rfl rfl (one_of HT_.out (by kernel_rfl)) (by decide) (fun K hK => ?_)
               refine Kd.R_append_step k69 (w0 := w) w.heap.size (by rfl) (.tmp 44) (.tmp 51) 57 69 (.agg #[(.string ⟨#[]⟩), (.int .i64 0)]) 24 rfl Try.underlying57 info69 rfl (by decide) (by omega) u193001 x193001_1 (⟨t193, wrap64 (bt a0 x5_1)⟩ : S69) [.string t193, .int .i64 (wrap64 (bt a0 x5_1))] (fun _ => True) (fun _ => False) rfl rfl ?aP (fun _ hk => hk.elim) ?aF ?aO ?aB ?aS ?aL ?_
               (case aP => exact k69_mkM _ _ _ (⟨t193, wrap64 (bt a0 x5_1)⟩ : S69))
               (case aB => exact (vh HB))
               (case aF => exact (fun _ _ => trivial))
               (case aO => exact (qr HO_193001.out))
               (case aS => exact (below_size (vh HB)))
               (case aL => have := LMc24.out; omega)
               intro v197 w27 ho hb hg hat
               rw [← Ny196.out] at ho
               replace BK191 := vG BK191 hg (Kd.R_ne HO_193001.out BK191.out (by decide))
               replace BK192 := vG BK192 hg (Kd.R_ne HO_193001.out BK192.out (by decide))
               replace HB := vA (hb); have HO198 := vA (ho); clear HO_193001 ho hb hg hat; obtain ⟨Ao28, co28, eo28⟩ := Kd.R_slice HO198.out
               (first | subst eo28 | (injection eo28 with f1_ f2_ f3_; have f4_ := f1_.symm; have f5_ := f3_.symm; clear f1_ f2_ f3_; subst f4_; subst f5_))
               refine hK.out _ _ ⟨(blk_cell BK192.out 0).trans rfl, (blk_cell BK192.out 1).trans rfl, (blk_cell BK192.out 2).trans rfl⟩ (fun hHeld => ?_)
               clear hK K; refine norm_ (a' := ?_) ?_ ?_; rotate_left
               ·show Act.put _ (some 52) _ = _
                refine qp ?_
                rfl
               refine pure_ (i := 10) (N := some 53) (v := ?_) (a' := ?_) #[true, true, true, true, true, true, true, true, true, true, true, false] rfl rfl (any_of HT_.out (by kernel_rfl)) (fun _ _ _ h => h) (Or.inl ⟨by rfl, ?_⟩) ?_ ?_
               rotate_left
               ·intro w'
                go_simp
                with_reducible rfl
               rotate_left
               ·refine qp ?_
                rfl
               refine last_ (i := 11) (N := none) #[true, true, true, true, true, true, true, true, true, true, true, true] rfl rfl (one_of HT_.out (by kernel_rfl)) (by decide) (fun K hK => ?_)
               have hs29 : w27.cell? ⟨gb192, 1, none⟩ = some (u193001) := (blk_cell BK192.out 1).trans rfl; have hfs29 := blk_frozen BK192.out 1; have hns29_0 := NB191_192.out; have hms29_0 := NB192_191.out
               refine skip_ (w1 := ?_) (by rfl) rfl ?_ ?_
               rotate_left
               ·go_simp
                rfl
               refine hK.out _ _ ?_; clear hK K
               refine done_ (done_of HT_.out (by kernel_rfl)) ?_
               try go_wp2
               go_roundg kj15
               case measure => have := HK1.out; have := HJ15.out; omega
               case rel => exact ⟨(t194), (wrap64 (x6_1 + 1)), (x192000_1), (x192002_1), (y196), (.slice Ao28 y196.length co28), qz, qz, H', ⟨by have := HK1.out; have := HJ15.out; omega⟩, ⟨by refine qR ?_; exact Kd.R_mono (Kd.R_far (p := ⟨gb192, 1, none⟩) (Kd.R_types HO198.out BK192.out (by decide)) (fun _ hk => hk.2) (.slice Ao28 y196.length co28)) (fun _ hk => trivial)⟩, ⟨by refine qK ?_; refine blk_far ?_ NB191_192.out _; refine qK ?_; exact BK191.out⟩, ⟨by refine qK ?_; refine blk_put (cs := #[.bool true, u193001, .string (⟨#[]⟩ : ByteArray)]) ?_ 1 _ rfl; refine qK ?_; exact BK192.out⟩, ⟨qb2 HB.out GE191.out GE192.out⟩⟩
              ·rw [if_neg c24] at H
               exact absurd H (by simp)
             ·rw [if_neg c22] at H
              exact absurd H (by simp)
            ·rw [if_neg c21] at H
             exact absurd H (by simp)
           ·replace c20 := Bool.eq_false_iff.mpr c20
            subst c20
            rw [if_neg (show ¬ (false = true) by decide)] at H
            simp only [Option.some.injEq, Prod.mk.injEq] at H
            obtain ⟨rfl, rfl, rfl, rfl⟩ := H
            go_wp2_with (first | ((with_reducible refine gate_callee (f := 104) rfl ?_); refine goesL_ (some 36) rfl rfl Try.func104 (by kernel_rfl) rfl #[.string a0, .int .i64 (wrap64 (x5_1 + 1))] rfl qm ?_; (with_reducible refine (spec_ReadShort.calls kj15 a0 (wrap64 (x5_1 + 1)) t193 t194 false _ A19.out).mono ?_); rintro e w30 ⟨rfl, hb⟩; refine ⟨_, rfl, ?_⟩; replace HO_193001 := vrb HO_193001 hb; replace BK191 := vw BK191 hb; replace BK192 := vw BK192 hb; replace HB := vbs HB hb; clear hb; have hnb31 := NB191_192.out; have hnc31 := NB192_191.out; obtain ⟨hcz32_0, hcz32_1, hcz32_2⟩ := v3c BK191.out; obtain ⟨hfz32_0, hfz32_1, hfz32_2⟩ := v3f BK191.out))
            refine bodyPost_ret (results_ct rfl _ _ gb191 59 #[.bool false, .slice none 0 0, .string (⟨#[]⟩ : ByteArray)] (0, 0) _ rfl (blk_put (blk_put (blk_put BK191.out 0 _ rfl) 1 _ rfl) 2 _ rfl) Try.underlying59 rfl (by kernel_rfl)) rfl ?_
            exact ⟨_, qe, by first | exact Kd.R_nil _ _ _ _ _ | exact Kd.N_nil _ _ _ _ _ | exact Kd.V_nil _ _ _ _ _ | exact Kd.Q_nil _ _ _ _ _ | exact Kd.S_nil _ _ _ _ _, qb2 HB.out GE191.out GE192.out⟩
          ·replace c18 := Bool.eq_false_iff.mpr c18
           subst c18
           rw [if_neg (show ¬ (false = true) by decide)] at H
           have H' := vA H; clear H
           go_wp2
           go_meet
           case rel => exact ⟨_, (x192000_1), (x192002_1), (true), (x193001_1), ((⟨#[]⟩ : ByteArray)), (u193001), H', ⟨by have := HK1.out; have := HJ15.out; first | omega | exact Nat.le_refl _⟩, ⟨qr HO_193001.out⟩, ⟨qk BK191.out⟩, ⟨qk BK192.out⟩, ⟨qb2 HB.out GE191.out GE192.out⟩⟩
     ·rw [if_neg c13] at H
      have c13b0 : ((bt a0 0) == 100) = false := beq_eq_false_iff_ne.mpr c13; have c13b1 : ((bt a0 0) != 100) = true := bne_iff_ne.mpr c13
      (first | rw [c13b0] | (simp only [i64_w, i32_w]; rw [c13b0]) | skip)
      have H' := vA H; clear H
      go_wp2
      go_meet
      case rel => exact ⟨_, (false), ((⟨#[]⟩ : ByteArray)), (false), (([] : List (S69))), (a0.extract 1 a0.size), (.slice none 0 0), H', ⟨by first | omega | exact Nat.le_refl _⟩, ⟨by first | exact Kd.R_nil _ _ _ _ _ | exact Kd.N_nil _ _ _ _ _ | exact Kd.V_nil _ _ _ _ _ | exact Kd.Q_nil _ _ _ _ _ | exact Kd.S_nil _ _ _ _ _⟩, ⟨by refine qK ?_; refine blk_far ?_ NB191_192.out _; refine qK ?_; refine blk_far ?_ NB191_192.out _; refine qK ?_; refine blk_far ?_ NB191_192.out _; refine qK ?_; exact BK191.out⟩, ⟨by refine qK ?_; refine blk_put (cs := #[.bool false, .slice none 0 0, .string (⟨#[]⟩ : ByteArray)]) ?_ 2 _ rfl; refine qK ?_; refine blk_put (cs := #[.bool false, .slice none 0 0, .string (⟨#[]⟩ : ByteArray)]) ?_ 1 _ rfl; refine qK ?_; refine blk_put (cs := #[.bool false, .slice none 0 0, .string (⟨#[]⟩ : ByteArray)]) ?_ 0 _ rfl; refine qK ?_; exact BK192.out⟩, ⟨qb2 HB.out GE191.out GE192.out⟩⟩
    case rest =>
     clear HC8
     (try clear c1); (try clear c2); (try clear c2b0); (try clear c2b1); (try clear p2); (try clear q2); (try clear hx2); (try clear c3); (try clear c4); (try clear c5); (try clear c5b0); (try clear c5b1); (try clear c6); (try clear c6b0); (try clear c6b1); (try clear p6); (try clear p7); (try clear q7); (try clear hx7); (try clear qi7); (try clear c10); (try clear c11); (try clear c13); (try clear c13b0); (try clear c13b1); (try clear c14); (try clear c17); (try clear c17b0); (try clear c18); (try clear c20); (try clear c21); (try clear c21b0); (try clear c22); (try clear c22b0); (try clear p23); (try clear q23); (try clear hx23); (try clear c24); (try clear c31); (try clear hcz12_0); (try clear hcz12_1); (try clear hcz12_2); (try clear hcz15_0); (try clear hcz15_1); (try clear hcz15_2); (try clear hcz32_0); (try clear hcz32_1); (try clear hcz32_2); (try clear hcz4_0); (try clear hcz4_1); (try clear hcz4_2); (try clear hfz12_0); (try clear hfz12_1); (try clear hfz12_2); (try clear hfz15_0); (try clear hfz15_1); (try clear hfz15_2); (try clear hfz32_0); (try clear hfz32_1); (try clear hfz32_2); (try clear hfz4_0); (try clear hfz4_1); (try clear hfz4_2); (try clear p2); (try clear p23); (try clear p7); (try clear q23); (try clear q7)
     obtain ⟨kq, x192000_7, x192002_7, x193000_7, x193001_7, x193002_7, u193001, HA, HJ7, HO_193001, BK191, BK192, HB⟩ := hcut
     cases kq with
     | zero => exact absurd HA.out (by simp [spec_ReadBlock.j2])
     | succ kj7 =>
      have H := HA.out; clear HA
      simp only [spec_ReadBlock.j2] at H
      replace H := Option.bind_eq_some_iff.mp H; obtain ⟨⟨t199, t200⟩, A330, H⟩ := H
      dsimp only at H
      have A33 := vA A330; clear A330
      by_cases c34 : t200 = true
      ·subst c34
       rw [if_pos rfl] at H
       by_cases c35 : t199.toList = a0.toList
       ·rw [if_pos c35] at H
        have c35b0 : (t199.toList == a0.toList) = true := beq_iff_eq.mpr c35; have c35b1 : (t199.toList != a0.toList) = false := bne_eq_false_iff_eq.mpr c35; clear c35
        simp only [Option.some.injEq, Prod.mk.injEq] at H
        obtain ⟨rfl, rfl, rfl, rfl⟩ := H; have hnb36 := NB192_191.out; have hnc36 := NB191_192.out; obtain ⟨hcz37_0, hcz37_1, hcz37_2⟩ := v3c BK192.out; obtain ⟨hfz37_0, hfz37_1, hfz37_2⟩ := v3f BK192.out; obtain ⟨Ao38, co38, eo38⟩ := Kd.R_slice HO_193001.out; subst eo38
        go_wp2_with (first | ((with_reducible refine gate_callee (f := 42) rfl ?_); refine goesL_ (some 57) rfl rfl Try.func42 (by kernel_rfl) rfl #[.agg #[.bool x193000_7, .slice Ao38 x193001_7.length co38, .string x193002_7]] rfl qm ?_; (with_reducible refine (spec_BlockText.calls kj7 x193000_7 _ _ x193001_7 x193002_7 t199 true _ (vd (Kd.R_reads' HO_193001.out).2.2) ((Kd.R_reads' HO_193001.out).2.1) A33.out).mono ?_); rintro e w39 ⟨rfl, hb⟩; refine ⟨_, rfl, ?_⟩; replace HO_193001 := vrb HO_193001 hb; replace BK191 := vw BK191 hb; replace BK192 := vw BK192 hb; replace HB := vbs HB hb; clear hb; obtain ⟨hcz40_0, hcz40_1, hcz40_2⟩ := v3c BK192.out; obtain ⟨hfz40_0, hfz40_1, hfz40_2⟩ := v3f BK192.out; obtain ⟨hcz41_0, hcz41_1, hcz41_2⟩ := v3c BK191.out; obtain ⟨hfz41_0, hfz41_1, hfz41_2⟩ := v3f BK191.out))
        refine bodyPost_ret (results_ct rfl _ _ gb191 59 #[.bool x193000_7, .slice Ao38 x193001_7.length co38, .string x193002_7] (0, 0) _ rfl (blk_put (blk_put (blk_put BK191.out 0 _ rfl) 1 _ rfl) 2 _ rfl) Try.underlying59 rfl (by kernel_rfl)) rfl ?_
        exact ⟨_, qe, by refine qR ?_; exact Kd.R_mono (Kd.R_far (p := ⟨gb191, 2, none⟩) (Kd.R_far (p := ⟨gb191, 1, none⟩) (Kd.R_far (p := ⟨gb191, 0, none⟩) (Kd.R_types HO_193001.out BK191.out (by decide)) (fun _ hk => hk.2) (.bool x193000_7)) (fun _ hk => hk.2) (.slice Ao38 x193001_7.length co38)) (fun _ hk => hk.2) (.string x193002_7)) (fun _ hk => trivial), qb2 HB.out GE191.out GE192.out⟩
       ·rw [if_neg c35] at H
        have c35b0 : (t199.toList == a0.toList) = false := beq_eq_false_iff_ne.mpr c35; have c35b1 : (t199.toList != a0.toList) = true := bne_iff_ne.mpr c35
        simp only [Option.some.injEq, Prod.mk.injEq] at H
        obtain ⟨rfl, rfl, rfl, rfl⟩ := H; have hnb42 := NB192_191.out; have hnc42 := NB191_192.out; obtain ⟨hcz43_0, hcz43_1, hcz43_2⟩ := v3c BK192.out; obtain ⟨hfz43_0, hfz43_1, hfz43_2⟩ := v3f BK192.out; obtain ⟨Ao44, co44, eo44⟩ := Kd.R_slice HO_193001.out; subst eo44
        go_wp2_with (first | ((with_reducible refine gate_callee (f := 42) rfl ?_); refine goesL_ (some 57) rfl rfl Try.func42 (by kernel_rfl) rfl #[.agg #[.bool x193000_7, .slice Ao44 x193001_7.length co44, .string x193002_7]] rfl qm ?_; (with_reducible refine (spec_BlockText.calls kj7 x193000_7 _ _ x193001_7 x193002_7 t199 true _ (vd (Kd.R_reads' HO_193001.out).2.2) ((Kd.R_reads' HO_193001.out).2.1) A33.out).mono ?_); rintro e w45 ⟨rfl, hb⟩; refine ⟨_, rfl, ?_⟩; replace HO_193001 := vrb HO_193001 hb; replace BK191 := vw BK191 hb; replace BK192 := vw BK192 hb; replace HB := vbs HB hb; clear hb; obtain ⟨hcz46_0, hcz46_1, hcz46_2⟩ := v3c BK191.out; obtain ⟨hfz46_0, hfz46_1, hfz46_2⟩ := v3f BK191.out))
        refine bodyPost_ret (results_ct rfl _ _ gb191 59 #[.bool false, .slice none 0 0, .string (⟨#[]⟩ : ByteArray)] (0, 0) _ rfl (blk_put (blk_put (blk_put BK191.out 0 _ rfl) 1 _ rfl) 2 _ rfl) Try.underlying59 rfl (by kernel_rfl)) rfl ?_
        exact ⟨_, qe, by first | exact Kd.R_nil _ _ _ _ _ | exact Kd.N_nil _ _ _ _ _ | exact Kd.V_nil _ _ _ _ _ | exact Kd.Q_nil _ _ _ _ _ | exact Kd.S_nil _ _ _ _ _, qb2 HB.out GE191.out GE192.out⟩
      ·replace c34 := Bool.eq_false_iff.mpr c34
       subst c34
       rw [if_neg (show ¬ (false = true) by decide)] at H
       simp only [Option.some.injEq, Prod.mk.injEq] at H
       obtain ⟨rfl, rfl, rfl, rfl⟩ := H; have hnb47 := NB192_191.out; have hnc47 := NB191_192.out; obtain ⟨hcz48_0, hcz48_1, hcz48_2⟩ := v3c BK192.out; obtain ⟨hfz48_0, hfz48_1, hfz48_2⟩ := v3f BK192.out; obtain ⟨Ao49, co49, eo49⟩ := Kd.R_slice HO_193001.out; subst eo49
       go_wp2_with (first | ((with_reducible refine gate_callee (f := 42) rfl ?_); refine goesL_ (some 57) rfl rfl Try.func42 (by kernel_rfl) rfl #[.agg #[.bool x193000_7, .slice Ao49 x193001_7.length co49, .string x193002_7]] rfl qm ?_; (with_reducible refine (spec_BlockText.calls kj7 x193000_7 _ _ x193001_7 x193002_7 t199 false _ (vd (Kd.R_reads' HO_193001.out).2.2) ((Kd.R_reads' HO_193001.out).2.1) A33.out).mono ?_); rintro e w50 ⟨rfl, hb⟩; refine ⟨_, rfl, ?_⟩; replace HO_193001 := vrb HO_193001 hb; replace BK191 := vw BK191 hb; replace BK192 := vw BK192 hb; replace HB := vbs HB hb; clear hb; obtain ⟨hcz51_0, hcz51_1, hcz51_2⟩ := v3c BK191.out; obtain ⟨hfz51_0, hfz51_1, hfz51_2⟩ := v3f BK191.out))
       refine bodyPost_ret (results_ct rfl _ _ gb191 59 #[.bool false, .slice none 0 0, .string (⟨#[]⟩ : ByteArray)] (0, 0) _ rfl (blk_put (blk_put (blk_put BK191.out 0 _ rfl) 1 _ rfl) 2 _ rfl) Try.underlying59 rfl (by kernel_rfl)) rfl ?_
       exact ⟨_, qe, by first | exact Kd.R_nil _ _ _ _ _ | exact Kd.N_nil _ _ _ _ _ | exact Kd.V_nil _ _ _ _ _ | exact Kd.Q_nil _ _ _ _ _ | exact Kd.S_nil _ _ _ _ _, qb2 HB.out GE191.out GE192.out⟩
   ·rw [if_neg c6] at H
    exact absurd H (by simp)
  ·rw [if_neg c5] at H
   exact absurd H (by simp)

/-! ### spec_DeviceOk: function 74 -/
def spec_DeviceOk.l0 : Nat → Int → List ByteArray → Option (Bool)
 | 0, _, _ => none
 | k + 1, x3, x202000 => if x3 < (x202000.length : Int) then (if 0 ≤ x3 then (if ((rdOf ByteArray.empty x202000 x3).size : Int) > 60 then (some false) else (spec_DeviceOk.l0 k (wrap64 (x3 + 1)) x202000)) else (none)) else (some ((x202000.length : Int) == 21))
def spec_DeviceOk.f (k : Nat) (l0_0 : List ByteArray) : Option (Bool) := spec_DeviceOk.l0 k 0 l0_0
set_option maxHeartbeats 8000000 in
set_option maxRecDepth 100000 in
theorem spec_DeviceOk.calls (k : Nat) (A0_0 : Option Addr) (c0_0 : Nat) (l0_0 : List ByteArray) (r : Bool) (w : World) (hr0_0 : Kd.C Kd.string w A0_0 l0_0.length l0_0) (hc0_0 : l0_0.length ≤ c0_0) (h : spec_DeviceOk.f k l0_0 = some r) :
  Calls Try.prog 74 #[.agg #[.slice A0_0 l0_0.length c0_0]] w fun e w' => e = .returned (.bool r) ∧ Below w.heap.size w w' := by
 have hu32 := Try.underlying32
 have HR0_0 := vA hr0_0
 have HC0_0 := vA hc0_0
 clear hr0_0 hc0_0
 have HB := vA (Below.refl w.heap.size w)
 have H : (spec_DeviceOk.l0 k 0 l0_0) = some r := h
 clear h
 have H' := vA H
 clear H
 go_enter Try.func74, Try.ntmps74
 go_wp2_with (first | ((with_reducible refine gate_dst (N := 1) rfl ?_); refine vx (N := 1) (cs := #[.slice A0_0 l0_0.length c0_0]) (t := 32) ?_; intro gb201 hg w2 hbox hb; have BK201 := vA (hbox); have GW201 := vA ((vg hg (qb HB.out))); have GE201 := GW201; replace HB := vbs HB hb; clear hb hbox hg))
 go_loopg [3] k (fun kq v3 w' => ∃ (x3_1 : Int), v3 = .int .i64 x3_1 ∧ Aside0 (spec_DeviceOk.l0 kq x3_1 l0_0 = some r) ∧ Aside0 (kq ≤ k) ∧ Aside0 (w'.heap[gb201]? = some (.cells #[(.slice A0_0 l0_0.length c0_0)] 32 (0, 0))) ∧ Aside0 (Below w.heap.size w w'))
 case atStart => exact ⟨(0), qz, H', ⟨Nat.le_refl _⟩, ⟨qk BK201.out⟩, ⟨qb1 HB.out GE201.out⟩⟩
 case round =>
  clear H'
  (try clear p2)
  obtain ⟨x3_1, rfl, HA, HK1, BK201, HB⟩ := hrel
  cases gk with
  | zero => exact absurd HA.out (by simp [spec_DeviceOk.l0])
  | succ k1 =>
   have H := HA.out; clear HA
   simp only [spec_DeviceOk.l0] at H
   by_cases c3 : x3_1 < (l0_0.length : Int)
   ·rw [if_pos c3] at H
    have c3b0 : decide (x3_1 < (l0_0.length : Int)) = true := decide_eq_true c3; clear c3
    by_cases c4 : 0 ≤ x3_1
    ·rw [if_pos c4] at H
     have c4b0 : decide (0 ≤ x3_1) = true := decide_eq_true c4; clear c4
     by_cases c5 : ((rdOf ByteArray.empty l0_0 x3_1).size : Int) > 60
     ·rw [if_pos c5] at H
      have c5b0 : decide (60 < ((rdOf ByteArray.empty l0_0 x3_1).size : Int)) = true := decide_eq_true c5
      have c5b1 : decide (60 < (rdOf ByteArray.empty l0_0 x3_1).size) = true := decide_eq_true (by omega)
      clear c5; obtain rfl := Option.some.inj H; have hcz6_0 := v1c BK201.out; have hfz6_0 := blk_frozen BK201.out 0; have p202 : 0 ≤ (x3_1 : Int) := qo; have q202 : x3_1 < (l0_0.length : Int) := qo; obtain ⟨ad202, e202, hx202_0⟩ := Kd.at_string HR0_0.out x3_1 p202 q202
      cases e202
      replace hx202_0 := qc HB.out hx202_0; replace p202 := eq_true p202; replace q202 := eq_true q202
      go_wp2
      go_ret
      exact ⟨qe, qb1 HB.out GE201.out⟩
     ·rw [if_neg c5] at H
      have c5b0 : decide (60 < ((rdOf ByteArray.empty l0_0 x3_1).size : Int)) = false := decide_eq_false c5
      have c5b1 : decide (60 < (rdOf ByteArray.empty l0_0 x3_1).size) = false := decide_eq_false (by omega)
      clear c5; have H' := vA H; clear H; have hcz7_0 := v1c BK201.out; have hfz7_0 := blk_frozen BK201.out 0; have p202 : 0 ≤ (x3_1 : Int) := qo; have q202 : x3_1 < (l0_0.length : Int) := qo; obtain ⟨ad202, e202, hx202_0⟩ := Kd.at_string HR0_0.out x3_1 p202 q202
      cases e202
      replace hx202_0 := qc HB.out hx202_0; replace p202 := eq_true p202; replace q202 := eq_true q202
      go_wp2
      go_roundg k1
      case measure => have := HK1.out; omega
      case rel => exact ⟨(wrap64 (x3_1 + 1)), qz, H', ⟨by have := HK1.out; omega⟩, ⟨qk BK201.out⟩, ⟨qb1 HB.out GE201.out⟩⟩
    ·rw [if_neg c4] at H
     exact absurd H (by simp)
   ·rw [if_neg c3] at H
    have c3b0 : decide (x3_1 < (l0_0.length : Int)) = false := decide_eq_false c3; clear c3; obtain rfl := Option.some.inj H; have hcz8_0 := v1c BK201.out; have hfz8_0 := blk_frozen BK201.out 0
    go_wp2
    go_ret
    exact ⟨qe, qb1 HB.out GE201.out⟩

end Go.Proofs.Ytdnbpapolckklaa.PFnExactDiskOf
