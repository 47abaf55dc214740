-- Written by a program of this session (a changed copy of the kit's print: wip/print2). Lean checks it.
import Derived.Test.YtdnbpapolckklaaPax
import Derived.Test.YtdnbpapolckklaaPFnExactDiskOfx0
namespace Go.Proofs.Ytdnbpapolckklaa.PFnExactDiskOf
open Go.RowKit Go.Proofs.YtdnbpapolckklaaW.PrintWords Go.Proofs.YtdnbpapolckklaaW.PrintLast Go.Proofs.YtdnbpapolckklaaW.PrintMore
attribute [local go_sem] max2_int min2_int max_two min_two max_three min_three max_four min_four   -- for this text's walks alone
attribute [local go_sem] Go.Proofs.Ytdnbpapolckklaa.Pad.isSome_setCell
set_option linter.unusedVariables false
set_option linter.unusedSimpArgs false

/-! ### spec_ReadBits: function 75 -/
mutual
def spec_ReadBits.l0 : Nat → ByteArray → Int → List Bool → List Bool → Option (List Bool × List Bool × Bool)
 | 0, _, _, _, _ => none
 | k + 1, x0, x5, x205000, x205001 => if x5 < 24 then (if 0 ≤ (wrap64 (Int.tdiv x5 8)) then (if (wrap64 (Int.tdiv x5 8)) < (x0.size : Int) then (spec_ReadBits.l1 k x0 x5 (wrap64 (bt x0 (wrap64 (Int.tdiv x5 8)))) 0 x205000 x205001) else (none)) else (none)) else (some (x205000, x205001, true))
def spec_ReadBits.l1 : Nat → ByteArray → Int → Int → Int → List Bool → List Bool → Option (List Bool × List Bool × Bool)
 | 0, _, _, _, _, _, _ => none
 | k + 1, x0, x5, x6, x7, x205000, x205001 => if x7 < (Int.tmod x5 8) then (spec_ReadBits.l1 k x0 x5 (wrap64 (Int.tdiv x6 2)) (wrap64 (x7 + 1)) x205000 x205001) else (if x5 < 16 then (if x205000.length < 140737488355328 then (spec_ReadBits.l0 k x0 (wrap64 (x5 + 1)) (x205000 ++ [((Int.tmod x6 2) == 1)]) x205001) else (none)) else (if x205001.length < 140737488355328 then (spec_ReadBits.l0 k x0 (wrap64 (x5 + 1)) x205000 (x205001 ++ [((Int.tmod x6 2) == 1)])) else (none)))
end
def spec_ReadBits.f (k : Nat) (a0 : ByteArray) : Option (List Bool × List Bool × Bool) := if (a0.size : Int) = 3 then (spec_ReadBits.l0 k a0 0 ([] : List Bool) ([] : List Bool)) else (some (([] : List Bool), ([] : List Bool), false))
set_option maxHeartbeats 8000000 in
set_option maxRecDepth 100000 in
theorem spec_ReadBits.calls (k : Nat) (a0 : ByteArray) (r1 : List Bool) (r2 : List Bool) (r3 : Bool) (w : World) (h : spec_ReadBits.f k a0 = some (r1, r2, r3)) :
  Calls Try.prog 75 #[.string a0] w fun e w' => ∃ v0_ v1_ : Value, e = .returned (.tuple #[.agg #[v0_, v1_], .bool r3]) ∧ Kd.R Kd.bool 4 w' w.heap.size (fun k_ => some k_ ≠ (v1_ : Value).ownBlock) v0_ r1 ∧ Kd.R Kd.bool 4 w' w.heap.size (fun k_ => some k_ ≠ (v0_ : Value).ownBlock) v1_ r2 ∧ Below w.heap.size w w' := by
 have hu35 := Try.underlying35
 have HB := vA (Below.refl w.heap.size w)
 have H : (if (a0.size : Int) = 3 then (spec_ReadBits.l0 k a0 0 ([] : List Bool) ([] : List Bool)) else (some (([] : List Bool), ([] : List Bool), false))) = some (r1, r2, r3) := h
 clear h
 by_cases c2 : (a0.size : Int) = 3
 ·rw [if_pos c2] at H
  have c2b0 : ((a0.size : Int) == 3) = true := beq_iff_eq.mpr c2; have c2b1 : ((a0.size : Int) != 3) = false := bne_eq_false_iff_eq.mpr c2; clear c2; have H' := vA H; clear H
  go_enter Try.func75, Try.ntmps75
  go_wp2_with (first | ((with_reducible refine gate_dst (N := 2) rfl ?_); refine vx (N := 2) (cs := #[.slice none 0 0, .slice none 0 0]) (t := 35) ?_; intro gb203 hg w3 hbox hb; have BK203 := vA (hbox); have GW203 := vA ((vg hg (qb HB.out))); have GE203 := GW203; replace HB := vbs HB hb; clear hb hbox hg) | ((with_reducible refine gate_dst (N := 4) rfl ?_); refine vx (N := 4) (cs := #[.slice none 0 0, .slice none 0 0]) (t := 35) ?_; intro gb204 hg w4 hbox hb; have BK204 := vA (hbox); have GW204 := vA ((vg hg (vh HB))); have GE204 := GW204; replace HB := vbs HB hb; have NB203_204 := vn hg BK203; have NB204_203 := vN hg BK203; replace BK203 := vw BK203 hb; clear hb hbox hg; have hnb5 := NB204_203.out; have hnc5 := NB203_204.out; obtain ⟨hcz6_0, hcz6_1⟩ := v2c BK204.out; obtain ⟨hfz6_0, hfz6_1⟩ := v2f BK204.out))
  go_loopg [5] k (fun kq v5 w' => ∃ (x5_1 : Int) (x205000_1 : List Bool) (x205001_1 : List Bool) (u205000 : Value) (u205001 : Value), v5 = .int .i64 x5_1 ∧ Aside0 (spec_ReadBits.l0 kq a0 x5_1 x205000_1 x205001_1 = some (r1, r2, r3)) ∧ Aside0 (kq ≤ k) ∧ Aside0 (Kd.R Kd.bool 4 w' w.heap.size (fun k_ => some k_ ≠ (u205001 : Value).ownBlock) u205000 x205000_1) ∧ Aside0 (Kd.R Kd.bool 4 w' w.heap.size (fun k_ => some k_ ≠ (u205000 : Value).ownBlock) u205001 x205001_1) ∧ Aside0 (w'.heap[gb203]? = some (.cells #[(.slice none 0 0), (.slice none 0 0)] 35 (0, 0))) ∧ Aside0 (w'.heap[gb204]? = some (.cells #[u205000, u205001] 35 (0, 0))) ∧ Aside0 (Below w.heap.size w w'))
  case atStart => exact ⟨(0), (([] : List Bool)), (([] : List Bool)), (.slice none 0 0), (.slice none 0 0), qz, H', ⟨Nat.le_refl _⟩, ⟨by first | exact Kd.R_nil _ _ _ _ _ | exact Kd.N_nil _ _ _ _ _ | exact Kd.V_nil _ _ _ _ _ | exact Kd.Q_nil _ _ _ _ _ | exact Kd.S_nil _ _ _ _ _⟩, ⟨by first | exact Kd.R_nil _ _ _ _ _ | exact Kd.N_nil _ _ _ _ _ | exact Kd.V_nil _ _ _ _ _ | exact Kd.Q_nil _ _ _ _ _ | exact Kd.S_nil _ _ _ _ _⟩, ⟨by refine qK ?_; refine blk_far ?_ NB203_204.out _; refine qK ?_; refine blk_far ?_ NB203_204.out _; refine qK ?_; exact BK203.out⟩, ⟨by refine qK ?_; refine blk_put (cs := #[.slice none 0 0, .slice none 0 0]) ?_ 1 _ rfl; refine qK ?_; refine blk_put (cs := #[.slice none 0 0, .slice none 0 0]) ?_ 0 _ rfl; refine qK ?_; exact BK204.out⟩, ⟨qb2 HB.out GE203.out GE204.out⟩⟩
  case round =>
   clear H'
   (try clear c2); (try clear c2b0); (try clear c2b1); (try clear p2); (try clear c5); (try clear hcz6_0); (try clear hcz6_1); (try clear hfz6_0); (try clear hfz6_1)
   obtain ⟨x5_1, x205000_1, x205001_1, u205000, u205001, rfl, HA, HK1, HO_205000, HO_205001, BK203, BK204, HB⟩ := hrel
   cases gk with
   | zero => exact absurd HA.out (by simp [spec_ReadBits.l0])
   | succ k1 =>
    have H := HA.out; clear HA
    simp only [spec_ReadBits.l0] at H
    by_cases c7 : x5_1 < 24
    ·rw [if_pos c7] at H
     have c7b0 : decide (x5_1 < 24) = true := decide_eq_true c7; clear c7; obtain ⟨ji8, hji8⟩ : ∃ j_ : Int, (wrap64 (Int.tdiv x5_1 8)) = j_ := ⟨_, rfl⟩
     replace H : (if 0 ≤ (ji8) then (if (ji8) < (a0.size : Int) then (spec_ReadBits.l1 k1 a0 x5_1 (wrap64 (bt a0 (ji8))) 0 x205000_1 x205001_1) else (none)) else (none)) = some (r1, r2, r3) := by first | (rw [hji8] at H; exact H) | (simp only [hji8] at H ⊢; exact H)
     have hji8w : (IntKind.i64.wrap (Int.tdiv x5_1 8)) = ji8 := (i64_w _).trans hji8
     by_cases c9 : 0 ≤ (ji8)
     ·rw [if_pos c9] at H
      have c9b0 : decide (0 ≤ (ji8)) = true := decide_eq_true c9; clear c9
      by_cases c10 : (ji8) < (a0.size : Int)
      ·rw [if_pos c10] at H
       have c10b0 : decide ((ji8) < (a0.size : Int)) = true := decide_eq_true c10; clear c10; have H' := vA H; clear H; have p11 : 0 ≤ ((ji8) : Int) := qo; have q11 : (ji8) < (a0.size : Int) := qo; have hx11 := bt_at a0 (ji8); replace p11 := eq_true p11; replace q11 := eq_true q11
       go_wp2
       go_loopg [6, 7] k1 (fun kq v6 v7 w' => ∃ (x6_2 : Int) (x7_2 : Int), v6 = .int .i64 x6_2 ∧ v7 = .int .i64 x7_2 ∧ Aside0 (spec_ReadBits.l1 kq a0 x5_1 x6_2 x7_2 x205000_1 x205001_1 = some (r1, r2, r3)) ∧ Aside0 (kq ≤ k1) ∧ Aside0 (Kd.R Kd.bool 4 w' w.heap.size (fun k_ => some k_ ≠ (u205001 : Value).ownBlock) u205000 x205000_1) ∧ Aside0 (Kd.R Kd.bool 4 w' w.heap.size (fun k_ => some k_ ≠ (u205000 : Value).ownBlock) u205001 x205001_1) ∧ Aside0 (w'.heap[gb203]? = some (.cells #[(.slice none 0 0), (.slice none 0 0)] 35 (0, 0))) ∧ Aside0 (w'.heap[gb204]? = some (.cells #[u205000, u205001] 35 (0, 0))) ∧ Aside0 (Below w.heap.size w w'))
       case atStart => exact ⟨(wrap64 (bt a0 (ji8))), (0), (by first | rfl | (simp; done) | (simp only [← hji8] <;> (first | rfl | simp)) | (simp [*]; done) | (simp; generalize ByteArray.toList _ = l_; cases l_ <;> rfl)), qz, H', ⟨Nat.le_refl _⟩, ⟨qr HO_205000.out⟩, ⟨qr HO_205001.out⟩, ⟨qk BK203.out⟩, ⟨qk BK204.out⟩, ⟨qb2 HB.out GE203.out GE204.out⟩⟩
       case round =>
        clear H'
        (try clear c1); (try clear p1); (try clear q1); (try clear hx1); (try clear c2); (try clear c2b0); (try clear c2b1); (try clear p2); (try clear c5); (try clear p6); (try clear c7); (try clear c7b0); (try clear c9); (try clear c9b0); (try clear c10); (try clear c10b0); (try clear p11); (try clear q11); (try clear hx11); (try clear hcz6_0); (try clear hcz6_1); (try clear hfz6_0); (try clear hfz6_1); (try clear p11); (try clear p2); (try clear q11)
        obtain ⟨x6_2, x7_2, rfl, rfl, HA, HK2, HO_205000, HO_205001, BK203, BK204, HB⟩ := hrel
        cases gk with
        | zero => exact absurd HA.out (by simp [spec_ReadBits.l1])
        | succ k2 =>
         have H := HA.out; clear HA
         simp only [spec_ReadBits.l1] at H
         by_cases c12 : x7_2 < (Int.tmod x5_1 8)
         ·rw [if_pos c12] at H
          have c12b0 : decide (x7_2 < (Int.tmod x5_1 8)) = true := decide_eq_true c12; clear c12; have H' := vA H; clear H
          go_wp2
          go_roundg k2
          case measure => have := HK1.out; have := HK2.out; omega
          case rel => exact ⟨(wrap64 (Int.tdiv x6_2 2)), (wrap64 (x7_2 + 1)), qz, qz, H', ⟨by have := HK1.out; have := HK2.out; omega⟩, ⟨qr HO_205000.out⟩, ⟨qr HO_205001.out⟩, ⟨qk BK203.out⟩, ⟨qk BK204.out⟩, ⟨qb2 HB.out GE203.out GE204.out⟩⟩
         ·rw [if_neg c12] at H
          have c12b0 : decide (x7_2 < (Int.tmod x5_1 8)) = false := decide_eq_false c12; clear c12
          by_cases c13 : x5_1 < 16
          ·rw [if_pos c13] at H
           have c13b0 : decide (x5_1 < 16) = true := decide_eq_true c13; clear c13
           by_cases c14 : x205000_1.length < 140737488355328
           ·rw [if_pos c14] at H
            have LMc14 := vA c14; clear c14; obtain ⟨y205, hy205⟩ : ∃ y_ : List Bool, y_ = (x205000_1 ++ [((Int.tmod x6_2 2) == 1)]) := ⟨_, rfl⟩
            first | rw [Option.bind_some, ← hy205] at H | rw [← hy205] at H
            have Ny205 := vA hy205; clear hy205; have H' := vA H; clear H; have hnb15 := NB204_203.out; have hnc15 := NB203_204.out; obtain ⟨hcz16_0, hcz16_1⟩ := v2c BK204.out; obtain ⟨hfz16_0, hfz16_1⟩ := v2f BK204.out
            go_wp2_with (first | ((with_reducible refine gate_builtin (b := .append) (xs := #[.tmp 33, .tmp 37]) rfl ?_); at_builtin; refine Kd.R_append Kd.bool (w0 := w) w.heap.size rfl (.tmp 33) (.tmp 37) 22 4 (.bool false) 1 rfl Try.underlying22 info4 rfl (by decide) (by omega) u205000 x205000_1 ((Int.tmod x6_2 2) == 1) [.bool ((Int.tmod x6_2 2) == 1)] (fun k_ => some k_ ≠ (u205001 : Value).ownBlock) (fun _ => False) rfl rfl ?aP (fun _ hk => hk.elim) ?aF ?aO ?aB ?aS ?aL ?_; (case aP => exact rfl); (case aB => exact (vh HB)); (case aF => exact (fun k_ hk => Kd.fresh' (Kd.R_lt (qr HO_205001.out)) k_ hk)); (case aO => exact (qr HO_205000.out)); (case aS => exact (below_size (vh HB))); (case aL => have := LMc14.out; omega); intro v206 w17 ho hb hg hat; rw [← Ny205.out] at ho; replace HO_205001 := vA (Kd.R_after (ok := (fun _ => True)) (by refine qR ?_; exact Kd.R_mono HO_205001.out (fun _ hk => ⟨trivial, hk⟩)) hg hat); replace BK203 := vG BK203 hg (Kd.R_ne HO_205000.out BK203.out (by decide)); replace BK204 := vG BK204 hg (Kd.R_ne HO_205000.out BK204.out (by decide)); replace HB := vA (hb); have HO207 := vA (ho); clear HO_205000 ho hb hg hat; obtain ⟨Ao18, co18, eo18⟩ := Kd.R_slice HO207.out; subst eo18; obtain ⟨hcz19_0, hcz19_1⟩ := v2c BK204.out; obtain ⟨hfz19_0, hfz19_1⟩ := v2f BK204.out))
            go_roundg k2
            case measure => have := HK1.out; have := HK2.out; omega
            case rel => exact ⟨(wrap64 (x5_1 + 1)), (y205), (x205001_1), (.slice Ao18 y205.length co18), (u205001), qz, H', ⟨by have := HK1.out; have := HK2.out; omega⟩, ⟨by refine qR ?_; exact Kd.R_mono (Kd.R_far (p := ⟨gb204, 0, none⟩) (Kd.R_types HO207.out BK204.out (by decide)) (fun _ hk => hk.2) (.slice Ao18 y205.length co18)) (fun _ hk => hk.1)⟩, ⟨by refine qR ?_; exact Kd.R_mono (Kd.R_far (p := ⟨gb204, 0, none⟩) (Kd.R_types HO_205001.out BK204.out (by decide)) (fun _ hk => hk.2) (.slice Ao18 y205.length co18)) (fun _ hk => hk.1.2)⟩, ⟨by refine qK ?_; refine blk_far ?_ NB203_204.out _; refine qK ?_; exact BK203.out⟩, ⟨by refine qK ?_; refine blk_put (cs := #[u205000, u205001]) ?_ 0 _ rfl; refine qK ?_; exact BK204.out⟩, ⟨qb2 HB.out GE203.out GE204.out⟩⟩
           ·rw [if_neg c14] at H
            exact absurd H (by simp)
          ·rw [if_neg c13] at H
           have c13b0 : decide (x5_1 < 16) = false := decide_eq_false c13; clear c13
           by_cases c20 : x205001_1.length < 140737488355328
           ·rw [if_pos c20] at H
            have LMc20 := vA c20; clear c20; obtain ⟨y208, hy208⟩ : ∃ y_ : List Bool, y_ = (x205001_1 ++ [((Int.tmod x6_2 2) == 1)]) := ⟨_, rfl⟩
            first | rw [Option.bind_some, ← hy208] at H | rw [← hy208] at H
            have Ny208 := vA hy208; clear hy208; have H' := vA H; clear H; have hnb21 := NB204_203.out; have hnc21 := NB203_204.out; obtain ⟨hcz22_0, hcz22_1⟩ := v2c BK204.out; obtain ⟨hfz22_0, hfz22_1⟩ := v2f BK204.out
            go_wp2_with (first | ((with_reducible refine gate_builtin (b := .append) (xs := #[.tmp 41, .tmp 45]) rfl ?_); at_builtin; refine Kd.R_append Kd.bool (w0 := w) w.heap.size rfl (.tmp 41) (.tmp 45) 22 4 (.bool false) 1 rfl Try.underlying22 info4 rfl (by decide) (by omega) u205001 x205001_1 ((Int.tmod x6_2 2) == 1) [.bool ((Int.tmod x6_2 2) == 1)] (fun k_ => some k_ ≠ (u205000 : Value).ownBlock) (fun _ => False) rfl rfl ?aP (fun _ hk => hk.elim) ?aF ?aO ?aB ?aS ?aL ?_; (case aP => exact rfl); (case aB => exact (vh HB)); (case aF => exact (fun k_ hk => Kd.fresh' (Kd.R_lt (qr HO_205000.out)) k_ hk)); (case aO => exact (qr HO_205001.out)); (case aS => exact (below_size (vh HB))); (case aL => have := LMc20.out; omega); intro v209 w23 ho hb hg hat; rw [← Ny208.out] at ho; replace HO_205000 := vA (Kd.R_after (ok := (fun _ => True)) (by refine qR ?_; exact Kd.R_mono HO_205000.out (fun _ hk => ⟨trivial, hk⟩)) hg hat); replace BK203 := vG BK203 hg (Kd.R_ne HO_205001.out BK203.out (by decide)); replace BK204 := vG BK204 hg (Kd.R_ne HO_205001.out BK204.out (by decide)); replace HB := vA (hb); have HO210 := vA (ho); clear HO_205001 ho hb hg hat; obtain ⟨Ao24, co24, eo24⟩ := Kd.R_slice HO210.out; subst eo24; obtain ⟨hcz25_0, hcz25_1⟩ := v2c BK204.out; obtain ⟨hfz25_0, hfz25_1⟩ := v2f BK204.out))
            go_roundg k2
            case measure => have := HK1.out; have := HK2.out; omega
            case rel => exact ⟨(wrap64 (x5_1 + 1)), (x205000_1), (y208), (u205000), (.slice Ao24 y208.length co24), qz, H', ⟨by have := HK1.out; have := HK2.out; omega⟩, ⟨by refine qR ?_; exact Kd.R_mono (Kd.R_far (p := ⟨gb204, 1, none⟩) (Kd.R_types HO_205000.out BK204.out (by decide)) (fun _ hk => hk.2) (.slice Ao24 y208.length co24)) (fun _ hk => hk.1.2)⟩, ⟨by refine qR ?_; exact Kd.R_mono (Kd.R_far (p := ⟨gb204, 1, none⟩) (Kd.R_types HO210.out BK204.out (by decide)) (fun _ hk => hk.2) (.slice Ao24 y208.length co24)) (fun _ hk => hk.1)⟩, ⟨by refine qK ?_; refine blk_far ?_ NB203_204.out _; refine qK ?_; exact BK203.out⟩, ⟨by refine qK ?_; refine blk_put (cs := #[u205000, u205001]) ?_ 1 _ rfl; refine qK ?_; exact BK204.out⟩, ⟨qb2 HB.out GE203.out GE204.out⟩⟩
           ·rw [if_neg c20] at H
            exact absurd H (by simp)
      ·rw [if_neg c10] at H
       exact absurd H (by simp)
     ·rw [if_neg c9] at H
      exact absurd H (by simp)
    ·rw [if_neg c7] at H
     have c7b0 : decide (x5_1 < 24) = false := decide_eq_false c7; clear c7
     simp only [Option.some.injEq, Prod.mk.injEq] at H
     obtain ⟨rfl, rfl, rfl⟩ := H; have hnb26 := NB204_203.out; have hnc26 := NB203_204.out; obtain ⟨hcz27_0, hcz27_1⟩ := v2c BK204.out; obtain ⟨hfz27_0, hfz27_1⟩ := v2f BK204.out; obtain ⟨Ao28, co28, eo28⟩ := Kd.R_slice HO_205000.out; subst eo28; obtain ⟨hcz29_0, hcz29_1⟩ := v2c BK203.out; obtain ⟨hfz29_0, hfz29_1⟩ := v2f BK203.out; obtain ⟨Ao30, co30, eo30⟩ := Kd.R_slice HO_205001.out; subst eo30
     go_wp2
     refine bodyPost_ret (results_ct rfl _ _ gb203 35 #[.slice Ao28 x205000_1.length co28, .slice Ao30 x205001_1.length co30] (0, 0) _ rfl (blk_put (blk_put BK203.out 0 _ rfl) 1 _ rfl) Try.underlying35 rfl (by kernel_rfl)) rfl ?_
     exact ⟨_, _, qe, by refine qR ?_; exact Kd.R_mono (Kd.R_far (p := ⟨gb203, 1, none⟩) (Kd.R_far (p := ⟨gb203, 0, none⟩) (Kd.R_types HO_205000.out BK203.out (by decide)) (fun _ hk => hk.2) (.slice Ao28 x205000_1.length co28)) (fun _ hk => hk.2) (.slice Ao30 x205001_1.length co30)) (fun _ hk => hk.1), by refine qR ?_; exact Kd.R_mono (Kd.R_far (p := ⟨gb203, 1, none⟩) (Kd.R_far (p := ⟨gb203, 0, none⟩) (Kd.R_types HO_205001.out BK203.out (by decide)) (fun _ hk => hk.2) (.slice Ao28 x205000_1.length co28)) (fun _ hk => hk.2) (.slice Ao30 x205001_1.length co30)) (fun _ hk => hk.1), qb2 HB.out GE203.out GE204.out⟩
 ·rw [if_neg c2] at H
  have c2b0 : ((a0.size : Int) == 3) = false := beq_eq_false_iff_ne.mpr c2; have c2b1 : ((a0.size : Int) != 3) = true := bne_iff_ne.mpr c2
  simp only [Option.some.injEq, Prod.mk.injEq] at H
  obtain ⟨rfl, rfl, rfl⟩ := H
  go_enter Try.func75, Try.ntmps75
  go_wp2_with (first | ((with_reducible refine gate_dst (N := 2) rfl ?_); refine vx (N := 2) (cs := #[.slice none 0 0, .slice none 0 0]) (t := 35) ?_; intro gb203 hg w31 hbox hb; have BK203 := vA (hbox); have GW203 := vA ((vg hg (qb HB.out))); have GE203 := GW203; replace HB := vbs HB hb; clear hb hbox hg; obtain ⟨hcz32_0, hcz32_1⟩ := v2c BK203.out; obtain ⟨hfz32_0, hfz32_1⟩ := v2f BK203.out))
  refine bodyPost_ret (results_ct rfl _ _ gb203 35 #[.slice none 0 0, .slice none 0 0] (0, 0) _ rfl (blk_put (blk_put BK203.out 0 _ rfl) 1 _ rfl) Try.underlying35 rfl (by kernel_rfl)) rfl ?_
  exact ⟨_, _, qe, by first | exact Kd.R_nil _ _ _ _ _ | exact Kd.N_nil _ _ _ _ _ | exact Kd.V_nil _ _ _ _ _ | exact Kd.Q_nil _ _ _ _ _ | exact Kd.S_nil _ _ _ _ _, by first | exact Kd.R_nil _ _ _ _ _ | exact Kd.N_nil _ _ _ _ _ | exact Kd.V_nil _ _ _ _ _ | exact Kd.Q_nil _ _ _ _ _ | exact Kd.S_nil _ _ _ _ _, qb1 HB.out GE203.out⟩

end Go.Proofs.Ytdnbpapolckklaa.PFnExactDiskOf
