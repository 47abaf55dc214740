-- Written by a program of this session (a changed copy of the kit's print: wip/print2). Lean checks it.
import Derived.Test.YtdnbpapolckklaaPax
import Derived.Test.YtdnbpapolckklaaPFnExactDiskOfx0
import Derived.Test.YtdnbpapolckklaaPFnExactDiskOfx5
namespace Go.Proofs.Ytdnbpapolckklaa.PFnExactDiskOf
open Go.RowKit Go.Proofs.YtdnbpapolckklaaW.PrintWords Go.Proofs.YtdnbpapolckklaaW.PrintLast Go.Proofs.YtdnbpapolckklaaW.PrintMore
attribute [local go_sem] max2_int min2_int max_two min_two max_three min_three max_four min_four   -- for this text's walks alone
attribute [local go_sem] Go.Proofs.Ytdnbpapolckklaa.Pad.isSome_setCell
set_option linter.unusedVariables false
set_option linter.unusedSimpArgs false

/-! ### spec_InodeOk: function 118 -/
mutual
def spec_InodeOk.j0 : Nat → Bool → Int → Int → List Int → Option (Bool)
 | 0, _, _, _, _ => none
 | k + 1, x19, x226000, x226001, x226002 => if x19 = true then (some false) else (spec_InodeOk.l0 k 0 x226000 x226001 x226002)
def spec_InodeOk.l0 : Nat → Int → Int → Int → List Int → Option (Bool)
 | 0, _, _, _, _ => none
 | k + 1, x3, x226000, x226001, x226002 => if x3 < 2 then (if 0 ≤ x3 then (if x3 < (x226002.length : Int) then ((spec_l01In.f (rd x226002 x3) 0 16).bind fun t229 => (if t229 = true then (if x226000 = 0 then (if (rd x226002 x3) = 0 then (spec_InodeOk.l0 k (wrap64 (x3 + 1)) x226000 x226001 x226002) else (some false)) else (spec_InodeOk.l0 k (wrap64 (x3 + 1)) x226000 x226001 x226002)) else (some false))) else (none)) else (none)) else (if x226000 = 0 then (some (x226001 == 0)) else (some true))
end
def spec_InodeOk.f (k : Nat) (a0_0 : Int) (a0_1 : Int) (l0_2 : List Int) : Option (Bool) := (spec_l01In.f a0_0 0 2).bind fun t226 => (if t226 = true then ((spec_l01In.f a0_1 0 200).bind fun t227 => (if t227 = true then (spec_InodeOk.j0 k ((l0_2.length : Int) != 2) a0_0 a0_1 l0_2) else (spec_InodeOk.j0 k true a0_0 a0_1 l0_2))) else (spec_InodeOk.j0 k true a0_0 a0_1 l0_2))
set_option maxHeartbeats 8000000 in
set_option maxRecDepth 100000 in
theorem spec_InodeOk.calls (k : Nat) (a0_0 : Int) (a0_1 : Int) (A0_2 : Option Addr) (c0_2 : Nat) (l0_2 : List Int) (r : Bool) (w : World) (hr0_2 : Kd.C (Kd.int .i64) w A0_2 l0_2.length l0_2) (hc0_2 : l0_2.length ≤ c0_2) (h : spec_InodeOk.f k a0_0 a0_1 l0_2 = some r) :
  Calls Try.prog 118 #[.agg #[.int .i64 a0_0, .int .i64 a0_1, .slice A0_2 l0_2.length c0_2]] w fun e w' => e = .returned (.bool r) ∧ Below w.heap.size w w' := by
 have hu105 := Try.underlying105
 have HR0_2 := vA hr0_2
 have HC0_2 := vA hc0_2
 clear hr0_2 hc0_2
 have HB := vA (Below.refl w.heap.size w)
 have H : ((spec_l01In.f a0_0 0 2).bind fun t226 => (if t226 = true then ((spec_l01In.f a0_1 0 200).bind fun t227 => (if t227 = true then (spec_InodeOk.j0 k ((l0_2.length : Int) != 2) a0_0 a0_1 l0_2) else (spec_InodeOk.j0 k true a0_0 a0_1 l0_2))) else (spec_InodeOk.j0 k true a0_0 a0_1 l0_2))) = some r := h
 clear h
 have HC2 := vA H
 clear H
 go_enter Try.func118, Try.ntmps118
 go_upto_region 1 with (first | ((with_reducible refine gate_dst (N := 1) rfl ?_); (try (refine gate_guard (by rfl) ?_; dsimp only)); refine vx (N := 1) (cs := #[.int .i64 a0_0, .int .i64 a0_1, .slice A0_2 l0_2.length c0_2]) (t := 105) ?_; intro gb225 hg w3 hbox hb; have BK225 := vA (hbox); have GW225 := vA ((vg hg (qb HB.out))); have GE225 := GW225; replace HB := vbs HB hb; clear hb hbox hg))
 (try simp only [Act.put, List.setIfInBounds_toArray, List.set_cons_zero, List.set_cons_succ])
 go_cut [19] (fun v19 wc => ∃ (kq : Nat) (x19_1 : Bool), v19 = .bool x19_1 ∧ Aside0 (spec_InodeOk.j0 kq x19_1 a0_0 a0_1 l0_2 = some r) ∧ Aside0 (kq ≤ k) ∧ Aside0 (wc.heap[gb225]? = some (.cells #[.int .i64 a0_0, .int .i64 a0_1, (.slice A0_2 l0_2.length c0_2)] 105 (0, 0))) ∧ Aside0 (Below w.heap.size w wc))
 case first =>
  have H := HC2.out; clear HC2; replace H := Option.bind_eq_some_iff.mp H; obtain ⟨t226, A40, H⟩ := H; have A4 := vA A40; clear A40; obtain ⟨hcz5_0, hcz5_1, hcz5_2⟩ := v3c BK225.out; obtain ⟨hfz5_0, hfz5_1, hfz5_2⟩ := v3f BK225.out
  go_wp2_with (first | ((with_reducible refine gate_callee (f := 93) rfl ?_); refine goesL_ (some 6) rfl rfl Try.func93 (by kernel_rfl) rfl #[.int .i64 a0_0, .int .i64 0, .int .i64 2] rfl qm ?_; (with_reducible refine (spec_l01In.calls a0_0 0 2 t226 _ A4.out).mono ?_)))
  first | rintro e w' rfl ⟨nd, rfl⟩ | rintro e w' ⟨rfl, ⟨nd, rfl⟩⟩
  refine ⟨_, rfl, ?_⟩
  by_cases c6 : t226 = true
  ·subst c6
   rw [if_pos rfl] at H; replace H := Option.bind_eq_some_iff.mp H; obtain ⟨t227, A70, H⟩ := H; have A7 := vA A70; clear A70
   by_cases c9 : t227 = true
   ·subst c9
    rw [if_pos rfl] at H; have H' := vA H; clear H; obtain ⟨hcz10_0, hcz10_1, hcz10_2⟩ := v3c BK225.out; obtain ⟨hfz10_0, hfz10_1, hfz10_2⟩ := v3f BK225.out
    go_wp2_with (first | (go_at_call 93; (with_reducible refine (spec_l01In.calls a0_1 0 200 true _ A7.out).mono ?_); rintro e w' ⟨rfl, ⟨nd, rfl⟩⟩))
    go_meet
    case rel => exact ⟨_, (((l0_2.length : Int) != 2)), qz, H', ⟨by first | omega | exact Nat.le_refl _⟩, ⟨qk BK225.out⟩, ⟨qb1 HB.out GE225.out⟩⟩
   ·replace c9 := Bool.eq_false_iff.mpr c9
    subst c9
    rw [if_neg (show ¬ (false = true) by decide)] at H
    have H' := vA H; clear H; obtain ⟨hcz11_0, hcz11_1, hcz11_2⟩ := v3c BK225.out; obtain ⟨hfz11_0, hfz11_1, hfz11_2⟩ := v3f BK225.out
    go_wp2_with (first | (go_at_call 93; (with_reducible refine (spec_l01In.calls a0_1 0 200 false _ A7.out).mono ?_); rintro e w' ⟨rfl, ⟨nd, rfl⟩⟩))
    go_meet
    case rel => exact ⟨_, (true), qz, H', ⟨by first | omega | exact Nat.le_refl _⟩, ⟨qk BK225.out⟩, ⟨qb1 HB.out GE225.out⟩⟩
  ·replace c6 := Bool.eq_false_iff.mpr c6
   subst c6
   rw [if_neg (show ¬ (false = true) by decide)] at H
   have H' := vA H; clear H
   go_wp2
   go_meet
   case rel => exact ⟨_, (true), qz, H', ⟨by first | omega | exact Nat.le_refl _⟩, ⟨qk BK225.out⟩, ⟨qb1 HB.out GE225.out⟩⟩
 case rest =>
  clear HC2
  (try clear c1); (try clear p2); (try clear c6); (try clear c9); (try clear c11); (try clear hcz10_0); (try clear hcz10_1); (try clear hcz10_2); (try clear hcz11_0); (try clear hcz11_1); (try clear hcz11_2); (try clear hcz5_0); (try clear hcz5_1); (try clear hcz5_2); (try clear hfz10_0); (try clear hfz10_1); (try clear hfz10_2); (try clear hfz11_0); (try clear hfz11_1); (try clear hfz11_2); (try clear hfz5_0); (try clear hfz5_1); (try clear hfz5_2)
  obtain ⟨kq, x19_1, rfl, HA, HJ1, BK225, HB⟩ := hcut
  cases kq with
  | zero => exact absurd HA.out (by simp [spec_InodeOk.j0])
  | succ kj1 =>
   have H := HA.out; clear HA
   simp only [spec_InodeOk.j0] at H
   by_cases c12 : x19_1 = true
   ·subst c12
    rw [if_pos rfl] at H; obtain rfl := Option.some.inj H
    go_wp2
    go_ret
    exact ⟨qe, qb1 HB.out GE225.out⟩
   ·replace c12 := Bool.eq_false_iff.mpr c12
    subst c12
    rw [if_neg (show ¬ (false = true) by decide)] at H
    have H' := vA H; clear H
    go_wp2
    go_loopg [3] kj1 (fun kq v3 w' => ∃ (x3_2 : Int), v3 = .int .i64 x3_2 ∧ Aside0 (spec_InodeOk.l0 kq x3_2 a0_0 a0_1 l0_2 = some r) ∧ Aside0 (kq ≤ kj1) ∧ Aside0 (w'.heap[gb225]? = some (.cells #[.int .i64 a0_0, .int .i64 a0_1, (.slice A0_2 l0_2.length c0_2)] 105 (0, 0))) ∧ Aside0 (Below w.heap.size w w'))
    case atStart => exact ⟨(0), qz, H', ⟨Nat.le_refl _⟩, ⟨qk BK225.out⟩, ⟨qb1 HB.out GE225.out⟩⟩
    case round =>
     clear H'
     (try clear c1); (try clear p2); (try clear c6); (try clear c9); (try clear c11); (try clear c12); (try clear hcz10_0); (try clear hcz10_1); (try clear hcz10_2); (try clear hcz11_0); (try clear hcz11_1); (try clear hcz11_2); (try clear hcz5_0); (try clear hcz5_1); (try clear hcz5_2); (try clear hfz10_0); (try clear hfz10_1); (try clear hfz10_2); (try clear hfz11_0); (try clear hfz11_1); (try clear hfz11_2); (try clear hfz5_0); (try clear hfz5_1); (try clear hfz5_2); (try clear p2)
     obtain ⟨x3_2, rfl, HA, HK2, BK225, HB⟩ := hrel
     cases gk with
     | zero => exact absurd HA.out (by simp [spec_InodeOk.l0])
     | succ k2 =>
      have H := HA.out; clear HA
      simp only [spec_InodeOk.l0] at H
      by_cases c13 : x3_2 < 2
      ·rw [if_pos c13] at H
       have c13b0 : decide (x3_2 < 2) = true := decide_eq_true c13; clear c13
       by_cases c14 : 0 ≤ x3_2
       ·rw [if_pos c14] at H
        have c14b0 : decide (0 ≤ x3_2) = true := decide_eq_true c14; clear c14
        by_cases c15 : x3_2 < (l0_2.length : Int)
        ·rw [if_pos c15] at H
         have c15b0 : decide (x3_2 < (l0_2.length : Int)) = true := decide_eq_true c15; clear c15; replace H := Option.bind_eq_some_iff.mp H; obtain ⟨t229, A160, H⟩ := H; have A16 := vA A160; clear A160; obtain ⟨hcz17_0, hcz17_1, hcz17_2⟩ := v3c BK225.out; obtain ⟨hfz17_0, hfz17_1, hfz17_2⟩ := v3f BK225.out; have p228 : 0 ≤ (x3_2 : Int) := qo; have q228 : x3_2 < (l0_2.length : Int) := qo; obtain ⟨ad228, e228, hx228_0⟩ := Kd.at_int HR0_2.out x3_2 p228 q228
         cases e228
         replace hx228_0 := qc HB.out hx228_0; replace p228 := eq_true p228; replace q228 := eq_true q228
         go_wp2_with (first | ((with_reducible refine gate_callee (f := 93) rfl ?_); refine goesL_ (some 29) rfl rfl Try.func93 (by kernel_rfl) rfl #[.int .i64 (rd l0_2 x3_2), .int .i64 0, .int .i64 16] rfl qm ?_; (with_reducible refine (spec_l01In.calls (rd l0_2 x3_2) 0 16 t229 _ A16.out).mono ?_)))
         first | rintro e w' rfl ⟨nd, rfl⟩ | rintro e w' ⟨rfl, ⟨nd, rfl⟩⟩
         refine ⟨_, rfl, ?_⟩
         by_cases c18 : t229 = true
         ·subst c18
          rw [if_pos rfl] at H
          by_cases c19 : a0_0 = 0
          ·rw [if_pos c19] at H
           have c19b0 : (a0_0 == 0) = true := beq_iff_eq.mpr c19; have c19b1 : (a0_0 != 0) = false := bne_eq_false_iff_eq.mpr c19; clear c19
           by_cases c20 : (rd l0_2 x3_2) = 0
           ·rw [if_pos c20] at H
            have c20b0 : ((rd l0_2 x3_2) == 0) = true := beq_iff_eq.mpr c20; have c20b1 : ((rd l0_2 x3_2) != 0) = false := bne_eq_false_iff_eq.mpr c20; clear c20; have H' := vA H; clear H; obtain ⟨hcz21_0, hcz21_1, hcz21_2⟩ := v3c BK225.out; obtain ⟨hfz21_0, hfz21_1, hfz21_2⟩ := v3f BK225.out; have p230 : 0 ≤ (x3_2 : Int) := qo; have q230 : x3_2 < (l0_2.length : Int) := qo; obtain ⟨ad230, e230, hx230_0⟩ := Kd.at_int HR0_2.out x3_2 p230 q230
            obtain rfl : ad228 = ad230 := (by injection e230)
            replace hx230_0 := qc HB.out hx230_0; replace p230 := eq_true p230; replace q230 := eq_true q230
            go_wp2
            go_roundg k2
            case measure => have := HJ1.out; have := HK2.out; omega
            case rel => exact ⟨(wrap64 (x3_2 + 1)), qz, H', ⟨by have := HJ1.out; have := HK2.out; omega⟩, ⟨qk BK225.out⟩, ⟨qb1 HB.out GE225.out⟩⟩
           ·rw [if_neg c20] at H
            have c20b0 : ((rd l0_2 x3_2) == 0) = false := beq_eq_false_iff_ne.mpr c20; have c20b1 : ((rd l0_2 x3_2) != 0) = true := bne_iff_ne.mpr c20; obtain rfl := Option.some.inj H; obtain ⟨hcz22_0, hcz22_1, hcz22_2⟩ := v3c BK225.out; obtain ⟨hfz22_0, hfz22_1, hfz22_2⟩ := v3f BK225.out; have p230 : 0 ≤ (x3_2 : Int) := qo; have q230 : x3_2 < (l0_2.length : Int) := qo; obtain ⟨ad230, e230, hx230_0⟩ := Kd.at_int HR0_2.out x3_2 p230 q230
            obtain rfl : ad228 = ad230 := (by injection e230)
            replace hx230_0 := qc HB.out hx230_0; replace p230 := eq_true p230; replace q230 := eq_true q230
            go_wp2
            go_ret
            exact ⟨qe, qb1 HB.out GE225.out⟩
          ·rw [if_neg c19] at H
           have c19b0 : (a0_0 == 0) = false := beq_eq_false_iff_ne.mpr c19; have c19b1 : (a0_0 != 0) = true := bne_iff_ne.mpr c19; have H' := vA H; clear H; obtain ⟨hcz23_0, hcz23_1, hcz23_2⟩ := v3c BK225.out; obtain ⟨hfz23_0, hfz23_1, hfz23_2⟩ := v3f BK225.out
           go_wp2
           go_roundg k2
           case measure => have := HJ1.out; have := HK2.out; omega
           case rel => exact ⟨(wrap64 (x3_2 + 1)), qz, H', ⟨by have := HJ1.out; have := HK2.out; omega⟩, ⟨qk BK225.out⟩, ⟨qb1 HB.out GE225.out⟩⟩
         ·replace c18 := Bool.eq_false_iff.mpr c18
          subst c18
          rw [if_neg (show ¬ (false = true) by decide)] at H
          obtain rfl := Option.some.inj H
          go_wp2
          go_ret
          exact ⟨qe, qb1 HB.out GE225.out⟩
        ·rw [if_neg c15] at H
         exact absurd H (by simp)
       ·rw [if_neg c14] at H
        exact absurd H (by simp)
      ·rw [if_neg c13] at H
       have c13b0 : decide (x3_2 < 2) = false := decide_eq_false c13; clear c13
       by_cases c24 : a0_0 = 0
       ·rw [if_pos c24] at H
        have c24b0 : (a0_0 == 0) = true := beq_iff_eq.mpr c24; have c24b1 : (a0_0 != 0) = false := bne_eq_false_iff_eq.mpr c24; clear c24; obtain rfl := Option.some.inj H; obtain ⟨hcz25_0, hcz25_1, hcz25_2⟩ := v3c BK225.out; obtain ⟨hfz25_0, hfz25_1, hfz25_2⟩ := v3f BK225.out
        go_wp2
        go_ret
        exact ⟨qe, qb1 HB.out GE225.out⟩
       ·rw [if_neg c24] at H
        have c24b0 : (a0_0 == 0) = false := beq_eq_false_iff_ne.mpr c24; have c24b1 : (a0_0 != 0) = true := bne_iff_ne.mpr c24; obtain rfl := Option.some.inj H; obtain ⟨hcz26_0, hcz26_1, hcz26_2⟩ := v3c BK225.out; obtain ⟨hfz26_0, hfz26_1, hfz26_2⟩ := v3f BK225.out
        go_wp2
        go_ret
        exact ⟨qe, qb1 HB.out GE225.out⟩

end Go.Proofs.Ytdnbpapolckklaa.PFnExactDiskOf
