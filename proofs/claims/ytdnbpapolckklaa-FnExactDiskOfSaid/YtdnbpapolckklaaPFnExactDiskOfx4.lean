-- Written by a program of this session (a changed copy of the kit's print: wip/print2). Lean checks it.
import Derived.Test.YtdnbpapolckklaaPax
import Derived.Test.YtdnbpapolckklaaPFnExactDiskOfx0
import Derived.Test.YtdnbpapolckklaaPFnExactDiskOfx2
import Derived.Test.YtdnbpapolckklaaPFnExactDiskOfx3
namespace Go.Proofs.Ytdnbpapolckklaa.PFnExactDiskOf
open Go.RowKit Go.Proofs.YtdnbpapolckklaaW.PrintWords Go.Proofs.YtdnbpapolckklaaW.PrintLast Go.Proofs.YtdnbpapolckklaaW.PrintMore
attribute [local go_sem] max2_int min2_int max_two min_two max_three min_three max_four min_four   -- for this text's walks alone
attribute [local go_sem] Go.Proofs.Ytdnbpapolckklaa.Pad.isSome_setCell
set_option linter.unusedVariables false
set_option linter.unusedSimpArgs false

/-! ### laws_eqBlock: function 32 -/
def laws_eqBlock.f (k : Nat) (a0_0 : Bool) (l0_1 : List (S69)) (a0_2 : ByteArray) (a1_0 : Bool) (l1_1 : List (S69)) (a1_2 : ByteArray) : Option (Bool) := if (a0_0 != a1_0) = true then (some false) else ((laws_eqSlotS.f k l0_1 l1_1).bind fun t127 => (if t127 = true then (if a0_2.toList = a1_2.toList then (some true) else (some false)) else (some false)))
set_option maxHeartbeats 8000000 in
set_option maxRecDepth 100000 in
theorem laws_eqBlock.calls (k : Nat) (a0_0 : Bool) (A0_1 : Option Addr) (c0_1 : Nat) (l0_1 : List (S69)) (a0_2 : ByteArray) (a1_0 : Bool) (A1_1 : Option Addr) (c1_1 : Nat) (l1_1 : List (S69)) (a1_2 : ByteArray) (r : Bool) (w : World) (hr0_1 : Kd.C k69 w A0_1 l0_1.length l0_1) (hc0_1 : l0_1.length ≤ c0_1) (hr1_1 : Kd.C k69 w A1_1 l1_1.length l1_1) (hc1_1 : l1_1.length ≤ c1_1) (h : laws_eqBlock.f k a0_0 l0_1 a0_2 a1_0 l1_1 a1_2 = some r) :
  Calls Try.prog 32 #[.agg #[.bool a0_0, .slice A0_1 l0_1.length c0_1, .string a0_2], .agg #[.bool a1_0, .slice A1_1 l1_1.length c1_1, .string a1_2]] w fun e w' => e = .returned (.bool r) ∧ Below w.heap.size w w' := by
 have hu59 := Try.underlying59
 have HR0_1 := vA hr0_1
 have HC0_1 := vA hc0_1
 clear hr0_1 hc0_1
 have HR1_1 := vA hr1_1
 have HC1_1 := vA hc1_1
 clear hr1_1 hc1_1
 have HB := vA (Below.refl w.heap.size w)
 have H : (if (a0_0 != a1_0) = true then (some false) else ((laws_eqSlotS.f k l0_1 l1_1).bind fun t127 => (if t127 = true then (if a0_2.toList = a1_2.toList then (some true) else (some false)) else (some false)))) = some r := h
 clear h
 by_cases c3 : (a0_0 != a1_0) = true
 ·rw [if_pos c3] at H
  have c3b0 : (a0_0 != a1_0) = true := c3
  (try (have c3b1 : decide (a0_0 = a1_0) = false := by simpa using c3))
  (try (have c3b2 : (a0_0 == a1_0) = false := by simpa using c3))
  (try (have c3b3 : ¬ (a0_0 = a1_0) := by simpa using c3))
  clear c3; obtain rfl := Option.some.inj H
  go_enter Try.func32, Try.ntmps32
  go_wp2_with (first | ((with_reducible refine gate_dst (N := 2) rfl ?_); refine vx (N := 2) (cs := #[.bool a0_0, .slice A0_1 l0_1.length c0_1, .string a0_2]) (t := 59) ?_; intro gb125 hg w4 hbox hb; have BK125 := vA (hbox); have GW125 := vA ((vg hg (qb HB.out))); have GE125 := GW125; replace HB := vbs HB hb; clear hb hbox hg) | ((with_reducible refine gate_dst (N := 3) rfl ?_); refine vx (N := 3) (cs := #[.bool a1_0, .slice A1_1 l1_1.length c1_1, .string a1_2]) (t := 59) ?_; intro gb126 hg w5 hbox hb; have BK126 := vA (hbox); have GW126 := vA ((vg hg (vh HB))); have GE126 := GW126; replace HB := vbs HB hb; have NB125_126 := vn hg BK125; have NB126_125 := vN hg BK125; replace BK125 := vw BK125 hb; clear hb hbox hg; have hnb6 := NB125_126.out; have hnc6 := NB126_125.out; obtain ⟨hcz7_0, hcz7_1, hcz7_2⟩ := v3c BK125.out; obtain ⟨hfz7_0, hfz7_1, hfz7_2⟩ := v3f BK125.out; obtain ⟨hcz8_0, hcz8_1, hcz8_2⟩ := v3c BK126.out; obtain ⟨hfz8_0, hfz8_1, hfz8_2⟩ := v3f BK126.out))
  go_ret
  exact ⟨qe, qb2 HB.out GE125.out GE126.out⟩
 ·rw [if_neg c3] at H
  have c3b0 : (a0_0 != a1_0) = false := by simpa using c3
  (try (have c3b1 : decide (a0_0 = a1_0) = true := by simpa using c3))
  (try (have c3b2 : (a0_0 == a1_0) = true := by simpa using c3))
  clear c3; replace H := Option.bind_eq_some_iff.mp H; obtain ⟨t127, A90, H⟩ := H; have A9 := vA A90; clear A90
  go_enter Try.func32, Try.ntmps32
  go_wp2_with (first | ((with_reducible refine gate_dst (N := 2) rfl ?_); refine vx (N := 2) (cs := #[.bool a0_0, .slice A0_1 l0_1.length c0_1, .string a0_2]) (t := 59) ?_; intro gb125 hg w10 hbox hb; have BK125 := vA (hbox); have GW125 := vA ((vg hg (qb HB.out))); have GE125 := GW125; replace HB := vbs HB hb; clear hb hbox hg) | ((with_reducible refine gate_dst (N := 3) rfl ?_); refine vx (N := 3) (cs := #[.bool a1_0, .slice A1_1 l1_1.length c1_1, .string a1_2]) (t := 59) ?_; intro gb126 hg w11 hbox hb; have BK126 := vA (hbox); have GW126 := vA ((vg hg (vh HB))); have GE126 := GW126; replace HB := vbs HB hb; have NB125_126 := vn hg BK125; have NB126_125 := vN hg BK125; replace BK125 := vw BK125 hb; clear hb hbox hg; have hnb12 := NB125_126.out; have hnc12 := NB126_125.out; obtain ⟨hcz13_0, hcz13_1, hcz13_2⟩ := v3c BK125.out; obtain ⟨hfz13_0, hfz13_1, hfz13_2⟩ := v3f BK125.out; obtain ⟨hcz14_0, hcz14_1, hcz14_2⟩ := v3c BK126.out; obtain ⟨hfz14_0, hfz14_1, hfz14_2⟩ := v3f BK126.out) | ((with_reducible refine gate_callee (f := 92) rfl ?_); refine goesL_ (some 14) rfl rfl Try.func92 (by kernel_rfl) rfl #[.slice A0_1 l0_1.length c0_1, .slice A1_1 l1_1.length c1_1] rfl qm ?_; (with_reducible refine (laws_eqSlotS.calls k _ _ l0_1 _ _ l1_1 t127 _ (vc HR0_1 HB) HC0_1.out (vc HR1_1 HB) HC1_1.out A9.out).mono ?_)))
  first | rintro e w15 rfl hb | rintro e w15 ⟨rfl, hb⟩
  refine ⟨_, rfl, ?_⟩; replace BK125 := vw BK125 hb; replace BK126 := vw BK126 hb; replace HB := vbs HB hb
  (try clear hb)
  (try clear hb2)
  (try clear hk)
  (try clear hi)
  by_cases c16 : t127 = true
  ·subst c16
   rw [if_pos rfl] at H
   by_cases c17 : a0_2.toList = a1_2.toList
   ·rw [if_pos c17] at H
    have c17b0 : (a0_2.toList == a1_2.toList) = true := beq_iff_eq.mpr c17; have c17b1 : (a0_2.toList != a1_2.toList) = false := bne_eq_false_iff_eq.mpr c17; clear c17; obtain rfl := Option.some.inj H; have hnb18 := NB125_126.out; have hnc18 := NB126_125.out; obtain ⟨hcz19_0, hcz19_1, hcz19_2⟩ := v3c BK125.out; obtain ⟨hfz19_0, hfz19_1, hfz19_2⟩ := v3f BK125.out; obtain ⟨hcz20_0, hcz20_1, hcz20_2⟩ := v3c BK126.out; obtain ⟨hfz20_0, hfz20_1, hfz20_2⟩ := v3f BK126.out
    go_wp2
    go_ret
    exact ⟨qe, qb2 HB.out GE125.out GE126.out⟩
   ·rw [if_neg c17] at H
    have c17b0 : (a0_2.toList == a1_2.toList) = false := beq_eq_false_iff_ne.mpr c17; have c17b1 : (a0_2.toList != a1_2.toList) = true := bne_iff_ne.mpr c17; obtain rfl := Option.some.inj H; have hnb21 := NB125_126.out; have hnc21 := NB126_125.out; obtain ⟨hcz22_0, hcz22_1, hcz22_2⟩ := v3c BK125.out; obtain ⟨hfz22_0, hfz22_1, hfz22_2⟩ := v3f BK125.out; obtain ⟨hcz23_0, hcz23_1, hcz23_2⟩ := v3c BK126.out; obtain ⟨hfz23_0, hfz23_1, hfz23_2⟩ := v3f BK126.out
    go_wp2
    go_ret
    exact ⟨qe, qb2 HB.out GE125.out GE126.out⟩
  ·replace c16 := Bool.eq_false_iff.mpr c16
   subst c16
   rw [if_neg (show ¬ (false = true) by decide)] at H
   obtain rfl := Option.some.inj H
   go_wp2
   go_ret
   exact ⟨qe, qb2 HB.out GE125.out GE126.out⟩

/-! ### laws_eqBlockS: function 67 -/
def laws_eqBlockS.l0 : Nat → List (S59) → List (S59) → Int → Option (Bool)
 | 0, _, _, _ => none
 | k + 1, x0, x1, x5 => if x5 < (x0.length : Int) then (if 0 ≤ x5 then (if x5 < (x1.length : Int) then ((laws_eqBlock.f k ((rd_T59 x0 x5).f0) ((rd_T59 x0 x5).f1) ((rd_T59 x0 x5).f2) ((rd_T59 x1 x5).f0) ((rd_T59 x1 x5).f1) ((rd_T59 x1 x5).f2)).bind fun t130 => (if t130 = true then (laws_eqBlockS.l0 k x0 x1 (wrap64 (x5 + 1))) else (some false))) else (none)) else (none)) else (some true)
def laws_eqBlockS.f (k : Nat) (l0 : List (S59)) (l1 : List (S59)) : Option (Bool) := if (l0.length : Int) = (l1.length : Int) then (laws_eqBlockS.l0 k l0 l1 0) else (some false)
def laws_eqBlockS.T6 : Bool × List (List Nat × List Nat) := (true, [([], []), ([], []), ([0, 1], [0, 1]), ([2], [2]), ([], []), ([], []), ([4, 5], [4, 5]), ([6], [6]), ([3, 7], [3, 7]), ([8], [8])])
def laws_eqBlockS.B6 : List Nat := [0, 0, 3, 7, 0, 0, 48, 112, 255, 511]
theorem laws_eqBlockS.tab6 : rtab .any (opsOf Try.f67 6) = laws_eqBlockS.T6 := by kernel_rfl
theorem laws_eqBlockS.bits6 : waitsOk laws_eqBlockS.T6.2 laws_eqBlockS.B6 = true := by kernel_rfl
set_option maxHeartbeats 8000000 in
set_option maxRecDepth 100000 in
theorem laws_eqBlockS.calls (k : Nat) (A0 : Option Addr) (c0 : Nat) (l0 : List (S59)) (A1 : Option Addr) (c1 : Nat) (l1 : List (S59)) (r : Bool) (w : World) (hr0 : Kd.C k59 w A0 l0.length l0) (hc0 : l0.length ≤ c0) (hr1 : Kd.C k59 w A1 l1.length l1) (hc1 : l1.length ≤ c1) (h : laws_eqBlockS.f k l0 l1 = some r) :
  Calls Try.prog 67 #[.slice A0 l0.length c0, .slice A1 l1.length c1] w fun e w' => e = .returned (.bool r) ∧ Below w.heap.size w w' := by
 have hu59 := Try.underlying59
 have HR0 := vA hr0
 have HC0 := vA hc0
 clear hr0 hc0
 have HR1 := vA hr1
 have HC1 := vA hc1
 clear hr1 hc1
 have HB := vA (Below.refl w.heap.size w)
 have H : (if (l0.length : Int) = (l1.length : Int) then (laws_eqBlockS.l0 k l0 l1 0) else (some false)) = some r := h
 clear h
 by_cases c3 : (l0.length : Int) = (l1.length : Int)
 ·rw [if_pos c3] at H
  have c3b0 : ((l0.length : Int) == (l1.length : Int)) = true := beq_iff_eq.mpr c3; have c3b1 : ((l0.length : Int) != (l1.length : Int)) = false := bne_eq_false_iff_eq.mpr c3
  have c3b2 : (l0.length == l1.length) = true := by first | simpa using c3 | (simp at c3 ⊢; omega)
  clear c3; have H' := vA H; clear H
  go_enter Try.func67, Try.ntmps67
  go_wp2
  go_loopg [5] k (fun kq v5 w' => ∃ (x5_1 : Int), v5 = .int .i64 x5_1 ∧ Aside0 (laws_eqBlockS.l0 kq l0 l1 x5_1 = some r) ∧ Aside0 (kq ≤ k) ∧ Aside0 (Below w.heap.size w w'))
  case atStart => exact ⟨(0), qz, H', ⟨Nat.le_refl _⟩, ⟨qb HB.out⟩⟩
  case round =>
   clear H'
   (try clear c1); (try clear p2); (try clear c3); (try clear c3b0); (try clear c3b1); (try clear c3b2)
   obtain ⟨x5_1, rfl, HA, HK1, HB⟩ := hrel
   cases gk with
   | zero => exact absurd HA.out (by simp [laws_eqBlockS.l0])
   | succ k1 =>
    have H := HA.out; clear HA
    simp only [laws_eqBlockS.l0] at H
    by_cases c4 : x5_1 < (l0.length : Int)
    ·rw [if_pos c4] at H
     have c4b0 : decide (x5_1 < (l0.length : Int)) = true := decide_eq_true c4; clear c4
     by_cases c5 : 0 ≤ x5_1
     ·rw [if_pos c5] at H
      have c5b0 : decide (0 ≤ x5_1) = true := decide_eq_true c5; clear c5
      by_cases c6 : x5_1 < (l1.length : Int)
      ·rw [if_pos c6] at H
       have c6b0 : decide (x5_1 < (l1.length : Int)) = true := decide_eq_true c6; clear c6; replace H := Option.bind_eq_some_iff.mp H; obtain ⟨t130, A70, H⟩ := H; have A7 := vA A70; clear A70
       by_cases c8 : t130 = true
       ·subst c8
        rw [if_pos rfl] at H; have H' := vA H; clear H
        try go_wp2
        replace HB := vA (below_drew1 HB.out); have p128 : 0 ≤ (x5_1 : Int) := qo; have q128 : x5_1 < (l0.length : Int) := qo; obtain ⟨ad128, A128_1, c128_1, e128, hx128_0, hx128_1, hx128_2, hl128_1, hi128_1⟩ := at_T59 HR0.out x5_1 p128 q128; have hw128_2 := hx128_2; have hw128_1 := hx128_1; have hw128_0 := hx128_0
        cases e128
        replace hx128_0 := qc HB.out hx128_0; replace hx128_1 := qc HB.out hx128_1; replace hx128_2 := qc HB.out hx128_2; have HR128_1 := vA hi128_1; have HC128_1 := vA hl128_1; clear hi128_1 hl128_1; replace p128 := eq_true p128; replace q128 := eq_true q128; have p129 : 0 ≤ (x5_1 : Int) := qo; have q129 : x5_1 < (l1.length : Int) := qo; obtain ⟨ad129, A129_1, c129_1, e129, hx129_0, hx129_1, hx129_2, hl129_1, hi129_1⟩ := at_T59 HR1.out x5_1 p129 q129; have hw129_2 := hx129_2; have hw129_1 := hx129_1; have hw129_0 := hx129_0
        cases e129
        replace hx129_0 := qc HB.out hx129_0; replace hx129_1 := qc HB.out hx129_1; replace hx129_2 := qc HB.out hx129_2; have HR129_1 := vA hi129_1; have HC129_1 := vA hl129_1; clear hi129_1 hl129_1; replace p129 := eq_true p129; replace q129 := eq_true q129
        refine start_ (n := 10) (S := fun w' => w'.cell? (ad128.add ((x5_1).toNat * 3)) = some (.bool ((rd_T59 l0 x5_1).f0)) ∧ w'.cell? ⟨(ad128.add ((x5_1).toNat * 3)).block, (ad128.add ((x5_1).toNat * 3)).off + 1, none⟩ = some (.slice A128_1 ((rd_T59 l0 x5_1).f1).length c128_1) ∧ w'.cell? ⟨(ad128.add ((x5_1).toNat * 3)).block, (ad128.add ((x5_1).toNat * 3)).off + 2, none⟩ = some (.string ((rd_T59 l0 x5_1).f2)) ∧ w'.cell? (ad129.add ((x5_1).toNat * 3)) = some (.bool ((rd_T59 l1 x5_1).f0)) ∧ w'.cell? ⟨(ad129.add ((x5_1).toNat * 3)).block, (ad129.add ((x5_1).toNat * 3)).off + 1, none⟩ = some (.slice A129_1 ((rd_T59 l1 x5_1).f1).length c129_1) ∧ w'.cell? ⟨(ad129.add ((x5_1).toNat * 3)).block, (ad129.add ((x5_1).toNat * 3)).off + 2, none⟩ = some (.string ((rd_T59 l1 x5_1).f2))) (ds := []) #[false, false, false, false, false, false, false, false, false, false] (by kernel_rfl) rfl rfl ⟨(qc HB.out hw128_0), (qc HB.out hw128_1), (qc HB.out hw128_2), (qc HB.out hw129_0), (qc HB.out hw129_1), (qc HB.out hw129_2)⟩ (fun hHeld => ?_); refine with_tabW laws_eqBlockS.tab6 laws_eqBlockS.bits6 (fun HT_ HW_ => ?_)
        generalize wr.drew = w9 at HB HR128_1 HR129_1 hx128_0 hx128_1 hx128_2 hx129_0 hx129_1 hx129_2 hHeld ⊢
        refine pure_ (i := 0) (N := some 17) (v := ?_) (a' := ?_) #[true, false, false, false, false, false, false, false, false, false] rfl rfl (any_of HT_.out (by kernel_rfl)) (fun _ _ _ h => h) (Or.inl ⟨by rfl, ?_⟩) ?_ ?_
        rotate_left
        ·intro w'
         go_simp
         with_reducible rfl
        rotate_left
        ·refine qp ?_
         rfl
        refine pure_ (i := 1) (N := some 18) (v := ?_) (a' := ?_) #[true, true, false, false, false, false, false, false, false, false] rfl rfl (any_of HT_.out (by kernel_rfl)) (fun _ _ _ h => h) (Or.inl ⟨by rfl, ?_⟩) ?_ ?_
        rotate_left
        ·intro w'
         go_simp
         with_reducible rfl
        rotate_left
        ·refine qp ?_
         rfl
        refine pure_ (i := 2) (N := some 19) (v := ?_) (a' := ?_) #[true, true, true, false, false, false, false, false, false, false] rfl rfl (any_of HT_.out (by kernel_rfl)) (fun _ _ _ h => h) (Or.inl ⟨by rfl, ?_⟩) ?_ ?_
        rotate_left
        ·intro w'
         go_simp
         with_reducible rfl
        rotate_left
        ·refine qp ?_
         rfl
        refine pure_ (i := 4) (N := some 21) (v := ?_) (a' := ?_) #[true, true, true, false, true, false, false, false, false, false] rfl rfl (any_of HT_.out (by kernel_rfl)) (fun _ _ _ h => h) (Or.inl ⟨by rfl, ?_⟩) ?_ ?_
        rotate_left
        ·intro w'
         go_simp
         with_reducible rfl
        rotate_left
        ·refine qp ?_
         rfl
        refine pure_ (i := 5) (N := some 22) (v := ?_) (a' := ?_) #[true, true, true, false, true, true, false, false, false, false] rfl rfl (any_of HT_.out (by kernel_rfl)) (fun _ _ _ h => h) (Or.inl ⟨by rfl, ?_⟩) ?_ ?_
        rotate_left
        ·intro w'
         go_simp
         with_reducible rfl
        rotate_left
        ·refine qp ?_
         rfl
        refine pure_ (i := 6) (N := some 23) (v := ?_) (a' := ?_) #[true, true, true, false, true, true, true, false, false, false] rfl rfl (any_of HT_.out (by kernel_rfl)) (fun _ _ _ h => h) (Or.inl ⟨by rfl, ?_⟩) ?_ ?_
        rotate_left
        ·intro w'
         go_simp
         with_reducible rfl
        rotate_left
        ·refine qp ?_
         rfl
        refine take_ (i := 3) (N := some 20) (v := ?_) (a' := ?_) #[true, true, true, true, true, true, true, false, false, false] rfl rfl (take_ofW HT_.out HW_.out (by kernel_rfl)) (fun _ _ _ h => h) (Or.inl ⟨by rfl, ?_⟩) hHeld ?_ ?_
        rotate_left
        ·rintro w' ⟨s0, s1, s2, s3, s4, s5⟩
         go_simp
         with_reducible rfl
        rotate_left
        ·refine qp ?_
         rfl
        refine take_ (i := 7) (N := some 24) (v := ?_) (a' := ?_) #[true, true, true, true, true, true, true, true, false, false] rfl rfl (take_ofW HT_.out HW_.out (by kernel_rfl)) (fun _ _ _ h => h) (Or.inl ⟨by rfl, ?_⟩) hHeld ?_ ?_
        rotate_left
        ·rintro w' ⟨s0, s1, s2, s3, s4, s5⟩
         go_simp
         with_reducible rfl
        rotate_left
        ·refine qp ?_
         rfl
        refine one_ (i := 8) (N := some 25) #[true, true, true, true, true, true, true, true, true, false] rfl rfl (one_of HT_.out (by kernel_rfl)) (by decide) (fun K hK => ?_)
        refine goes_ Try.func32 (by kernel_rfl) rfl #[.agg #[.bool ((rd_T59 l0 x5_1).f0), .slice A128_1 ((rd_T59 l0 x5_1).f1).length c128_1, .string ((rd_T59 l0 x5_1).f2)], .agg #[.bool ((rd_T59 l1 x5_1).f0), .slice A129_1 ((rd_T59 l1 x5_1).f1).length c129_1, .string ((rd_T59 l1 x5_1).f2)]] (by rfl) rfl rfl qm ?_
        with_reducible refine (laws_eqBlock.calls k1 ((rd_T59 l0 x5_1).f0) _ _ ((rd_T59 l0 x5_1).f1) ((rd_T59 l0 x5_1).f2) ((rd_T59 l1 x5_1).f0) _ _ ((rd_T59 l1 x5_1).f1) ((rd_T59 l1 x5_1).f2) true _ (vc HR128_1 HB) HC128_1.out (vc HR129_1 HB) HC129_1.out A7.out).mono ?_
        rintro e w10 ⟨rfl, hb⟩; refine ⟨_, rfl, ?_⟩; replace HB := vbs HB hb; clear hb
        refine hK.out _ _ ⟨(qc HB.out hw128_0), (qc HB.out hw128_1), (qc HB.out hw128_2), (qc HB.out hw129_0), (qc HB.out hw129_1), (qc HB.out hw129_2)⟩ (fun hHeld => ?_)
        clear hK K; refine norm_ (a' := ?_) ?_ ?_; rotate_left
        ·show Act.put _ (some 25) _ = _
         refine qp ?_
         rfl
        refine pure_ (i := 9) (N := some 26) (v := ?_) (a' := ?_) #[true, true, true, true, true, true, true, true, true, true] rfl rfl (any_of HT_.out (by kernel_rfl)) (fun _ _ _ h => h) (Or.inl ⟨by rfl, ?_⟩) ?_ ?_
        rotate_left
        ·intro w'
         go_simp
         with_reducible rfl
        rotate_left
        ·refine qp ?_
         rfl
        refine done_ (done_of HT_.out (by kernel_rfl)) ?_
        try go_wp2
        go_roundg k1
        case measure => have := HK1.out; omega
        case rel => exact ⟨(wrap64 (x5_1 + 1)), qz, H', ⟨by have := HK1.out; omega⟩, ⟨qb HB.out⟩⟩
       ·replace c8 := Bool.eq_false_iff.mpr c8
        subst c8
        rw [if_neg (show ¬ (false = true) by decide)] at H
        obtain rfl := Option.some.inj H
        try go_wp2
        replace HB := vA (below_drew1 HB.out); have p128 : 0 ≤ (x5_1 : Int) := qo; have q128 : x5_1 < (l0.length : Int) := qo; obtain ⟨ad128, A128_1, c128_1, e128, hx128_0, hx128_1, hx128_2, hl128_1, hi128_1⟩ := at_T59 HR0.out x5_1 p128 q128; have hw128_2 := hx128_2; have hw128_1 := hx128_1; have hw128_0 := hx128_0
        cases e128
        replace hx128_0 := qc HB.out hx128_0; replace hx128_1 := qc HB.out hx128_1; replace hx128_2 := qc HB.out hx128_2; have HR128_1 := vA hi128_1; have HC128_1 := vA hl128_1; clear hi128_1 hl128_1; replace p128 := eq_true p128; replace q128 := eq_true q128; have p129 : 0 ≤ (x5_1 : Int) := qo; have q129 : x5_1 < (l1.length : Int) := qo; obtain ⟨ad129, A129_1, c129_1, e129, hx129_0, hx129_1, hx129_2, hl129_1, hi129_1⟩ := at_T59 HR1.out x5_1 p129 q129; have hw129_2 := hx129_2; have hw129_1 := hx129_1; have hw129_0 := hx129_0
        cases e129
        replace hx129_0 := qc HB.out hx129_0; replace hx129_1 := qc HB.out hx129_1; replace hx129_2 := qc HB.out hx129_2; have HR129_1 := vA hi129_1; have HC129_1 := vA hl129_1; clear hi129_1 hl129_1; replace p129 := eq_true p129; replace q129 := eq_true q129
        refine start_ (n := 10) (S := fun w' => w'.cell? (ad128.add ((x5_1).toNat * 3)) = some (.bool ((rd_T59 l0 x5_1).f0)) ∧ w'.cell? ⟨(ad128.add ((x5_1).toNat * 3)).block, (ad128.add ((x5_1).toNat * 3)).off + 1, none⟩ = some (.slice A128_1 ((rd_T59 l0 x5_1).f1).length c128_1) ∧ w'.cell? ⟨(ad128.add ((x5_1).toNat * 3)).block, (ad128.add ((x5_1).toNat * 3)).off + 2, none⟩ = some (.string ((rd_T59 l0 x5_1).f2)) ∧ w'.cell? (ad129.add ((x5_1).toNat * 3)) = some (.bool ((rd_T59 l1 x5_1).f0)) ∧ w'.cell? ⟨(ad129.add ((x5_1).toNat * 3)).block, (ad129.add ((x5_1).toNat * 3)).off + 1, none⟩ = some (.slice A129_1 ((rd_T59 l1 x5_1).f1).length c129_1) ∧ w'.cell? ⟨(ad129.add ((x5_1).toNat * 3)).block, (ad129.add ((x5_1).toNat * 3)).off + 2, none⟩ = some (.string ((rd_T59 l1 x5_1).f2))) (ds := []) #[false, false, false, false, false, false, false, false, false, false] (by kernel_rfl) rfl rfl ⟨(qc HB.out hw128_0), (qc HB.out hw128_1), (qc HB.out hw128_2), (qc HB.out hw129_0), (qc HB.out hw129_1), (qc HB.out hw129_2)⟩ (fun hHeld => ?_); refine with_tabW laws_eqBlockS.tab6 laws_eqBlockS.bits6 (fun HT_ HW_ => ?_)
        generalize wr.drew = w11 at HB HR128_1 HR129_1 hx128_0 hx128_1 hx128_2 hx129_0 hx129_1 hx129_2 hHeld ⊢
        refine pure_ (i := 0) (N := some 17) (v := ?_) (a' := ?_) #[true, false, false, false, false, false, false, false, false, false] rfl rfl (any_of HT_.out (by kernel_rfl)) (fun _ _ _ h => h) (Or.inl ⟨by rfl, ?_⟩) ?_ ?_
        rotate_left
        ·intro w'
         go_simp
         with_reducible rfl
        rotate_left
        ·refine qp ?_
         rfl
        refine pure_ (i := 1) (N := some 18) (v := ?_) (a' := ?_) #[true, true, false, false, false, false, false, false, false, false] rfl rfl (any_of HT_.out (by kernel_rfl)) (fun _ _ _ h => h) (Or.inl ⟨by rfl, ?_⟩) ?_ ?_
        rotate_left
        ·intro w'
         go_simp
         with_reducible rfl
        rotate_left
        ·refine qp ?_
         rfl
        refine pure_ (i := 2) (N := some 19) (v := ?_) (a' := ?_) #[true, true, true, false, false, false, false, false, false, false] rfl rfl (any_of HT_.out (by kernel_rfl)) (fun _ _ _ h => h) (Or.inl ⟨by rfl, ?_⟩) ?_ ?_
        rotate_left
        ·intro w'
         go_simp
         with_reducible rfl
        rotate_left
        ·refine qp ?_
         rfl
        refine pure_ (i := 4) (N := some 21) (v := ?_) (a' := ?_) #[true, true, true, false, true, false, false, false, false, false] rfl rfl (any_of HT_.out (by kernel_rfl)) (fun _ _ _ h => h) (Or.inl ⟨by rfl, ?_⟩) ?_ ?_
        rotate_left
        ·intro w'
         go_simp
         with_reducible rfl
        rotate_left
        ·refine qp ?_
         rfl
        refine pure_ (i := 5) (N := some 22) (v := ?_) (a' := ?_) #[true, true, true, false, true, true, false, false, false, false] rfl rfl (any_of HT_.out (by kernel_rfl)) (fun _ _ _ h => h) (Or.inl ⟨by rfl, ?_⟩) ?_ ?_
        rotate_left
        ·intro w'
         go_simp
         with_reducible rfl
        rotate_left
        ·refine qp ?_
         rfl
        refine pure_ (i := 6) (N := some 23) (v := ?_) (a' := ?_) #[true, true, true, false, true, true, true, false, false, false] rfl rfl (any_of HT_.out (by kernel_rfl)) (fun _ _ _ h => h) (Or.inl ⟨by rfl, ?_⟩) ?_ ?_
        rotate_left
        ·intro w'
         go_simp
         with_reducible rfl
        rotate_left
        ·refine qp ?_
         rfl
        refine take_ (i := 3) (N := some 20) (v := ?_) (a' := ?_) #[true, true, true, true, true, true, true, false, false, false] rfl rfl (take_ofW HT_.out HW_.out (by kernel_rfl)) (fun _ _ _ h => h) (Or.inl ⟨by rfl, ?_⟩) hHeld ?_ ?_
        rotate_left
        ·rintro w' ⟨s0, s1, s2, s3, s4, s5⟩
         go_simp
         with_reducible rfl
        rotate_left
        ·refine qp ?_
         rfl
        refine take_ (i := 7) (N := some 24) (v := ?_) (a' := ?_) #[true, true, true, true, true, true, true, true, false, false] rfl rfl (take_ofW HT_.out HW_.out (by kernel_rfl)) (fun _ _ _ h => h) (Or.inl ⟨by rfl, ?_⟩) hHeld ?_ ?_
        rotate_left
        ·rintro w' ⟨s0, s1, s2, s3, s4, s5⟩
         go_simp
         with_reducible rfl
        rotate_left
        ·refine qp ?_
         rfl
        refine one_ (i := 8) (N := some 25) #[true, true, true, true, true, true, true, true, true, false] rfl rfl (one_of HT_.out (by kernel_rfl)) (by decide) (fun K hK => ?_)
        refine goes_ Try.func32 (by kernel_rfl) rfl #[.agg #[.bool ((rd_T59 l0 x5_1).f0), .slice A128_1 ((rd_T59 l0 x5_1).f1).length c128_1, .string ((rd_T59 l0 x5_1).f2)], .agg #[.bool ((rd_T59 l1 x5_1).f0), .slice A129_1 ((rd_T59 l1 x5_1).f1).length c129_1, .string ((rd_T59 l1 x5_1).f2)]] (by rfl) rfl rfl qm ?_
        with_reducible refine (laws_eqBlock.calls k1 ((rd_T59 l0 x5_1).f0) _ _ ((rd_T59 l0 x5_1).f1) ((rd_T59 l0 x5_1).f2) ((rd_T59 l1 x5_1).f0) _ _ ((rd_T59 l1 x5_1).f1) ((rd_T59 l1 x5_1).f2) false _ (vc HR128_1 HB) HC128_1.out (vc HR129_1 HB) HC129_1.out A7.out).mono ?_
        rintro e w12 ⟨rfl, hb⟩; refine ⟨_, rfl, ?_⟩; replace HB := vbs HB hb; clear hb
        refine hK.out _ _ ⟨(qc HB.out hw128_0), (qc HB.out hw128_1), (qc HB.out hw128_2), (qc HB.out hw129_0), (qc HB.out hw129_1), (qc HB.out hw129_2)⟩ (fun hHeld => ?_)
        clear hK K; refine norm_ (a' := ?_) ?_ ?_; rotate_left
        ·show Act.put _ (some 25) _ = _
         refine qp ?_
         rfl
        refine pure_ (i := 9) (N := some 26) (v := ?_) (a' := ?_) #[true, true, true, true, true, true, true, true, true, true] rfl rfl (any_of HT_.out (by kernel_rfl)) (fun _ _ _ h => h) (Or.inl ⟨by rfl, ?_⟩) ?_ ?_
        rotate_left
        ·intro w'
         go_simp
         with_reducible rfl
        rotate_left
        ·refine qp ?_
         rfl
        refine done_ (done_of HT_.out (by kernel_rfl)) ?_
        try go_wp2
        go_ret
        exact ⟨qe, qb HB.out⟩
      ·rw [if_neg c6] at H
       exact absurd H (by simp)
     ·rw [if_neg c5] at H
      exact absurd H (by simp)
    ·rw [if_neg c4] at H
     have c4b0 : decide (x5_1 < (l0.length : Int)) = false := decide_eq_false c4; clear c4; obtain rfl := Option.some.inj H
     go_wp2
     go_ret
     exact ⟨qe, qb HB.out⟩
 ·rw [if_neg c3] at H
  have c3b0 : ((l0.length : Int) == (l1.length : Int)) = false := beq_eq_false_iff_ne.mpr c3; have c3b1 : ((l0.length : Int) != (l1.length : Int)) = true := bne_iff_ne.mpr c3
  have c3b2 : (l0.length == l1.length) = false := by first | simpa using c3 | (simp at c3 ⊢; omega)
  obtain rfl := Option.some.inj H
  go_enter Try.func67, Try.ntmps67
  go_wp2
  go_ret
  exact ⟨qe, qb HB.out⟩

/-! ### laws_eqDisk: function 19 -/
def laws_eqDisk.f (k : Nat) (l0_0 : List Bool) (l0_1 : List Bool) (l0_2 : List (S105)) (l0_3 : List (S59)) (l1_0 : List Bool) (l1_1 : List Bool) (l1_2 : List (S105)) (l1_3 : List (S59)) : Option (Bool) := (laws_eqBits.f k l0_0 l0_1 l1_0 l1_1).bind fun t133 => (if t133 = true then ((laws_eqInodeS.f k l0_2 l1_2).bind fun t134 => (if t134 = true then ((laws_eqBlockS.f k l0_3 l1_3).bind fun t135 => (if t135 = true then (some true) else (some false))) else (some false))) else (some false))
set_option maxHeartbeats 8000000 in
set_option maxRecDepth 100000 in
theorem laws_eqDisk.calls (k : Nat) (A0_0 : Option Addr) (c0_0 : Nat) (l0_0 : List Bool) (A0_1 : Option Addr) (c0_1 : Nat) (l0_1 : List Bool) (A0_2 : Option Addr) (c0_2 : Nat) (l0_2 : List (S105)) (A0_3 : Option Addr) (c0_3 : Nat) (l0_3 : List (S59)) (A1_0 : Option Addr) (c1_0 : Nat) (l1_0 : List Bool) (A1_1 : Option Addr) (c1_1 : Nat) (l1_1 : List Bool) (A1_2 : Option Addr) (c1_2 : Nat) (l1_2 : List (S105)) (A1_3 : Option Addr) (c1_3 : Nat) (l1_3 : List (S59)) (r : Bool) (w : World) (hr0_0 : Kd.C Kd.bool w A0_0 l0_0.length l0_0) (hc0_0 : l0_0.length ≤ c0_0) (hr0_1 : Kd.C Kd.bool w A0_1 l0_1.length l0_1) (hc0_1 : l0_1.length ≤ c0_1) (hr0_2 : Kd.C k105 w A0_2 l0_2.length l0_2) (hc0_2 : l0_2.length ≤ c0_2) (hr0_3 : Kd.C k59 w A0_3 l0_3.length l0_3) (hc0_3 : l0_3.length ≤ c0_3) (hr1_0 : Kd.C Kd.bool w A1_0 l1_0.length l1_0) (hc1_0 : l1_0.length ≤ c1_0) (hr1_1 : Kd.C Kd.bool w A1_1 l1_1.length l1_1) (hc1_1 : l1_1.length ≤ c1_1) (hr1_2 : Kd.C k105 w A1_2 l1_2.length l1_2) (hc1_2 : l1_2.length ≤ c1_2) (hr1_3 : Kd.C k59 w A1_3 l1_3.length l1_3) (hc1_3 : l1_3.length ≤ c1_3) (h : laws_eqDisk.f k l0_0 l0_1 l0_2 l0_3 l1_0 l1_1 l1_2 l1_3 = some r) :
  Calls Try.prog 19 #[.agg #[.slice A0_0 l0_0.length c0_0, .slice A0_1 l0_1.length c0_1, .slice A0_2 l0_2.length c0_2, .slice A0_3 l0_3.length c0_3], .agg #[.slice A1_0 l1_0.length c1_0, .slice A1_1 l1_1.length c1_1, .slice A1_2 l1_2.length c1_2, .slice A1_3 l1_3.length c1_3]] w fun e w' => e = .returned (.bool r) ∧ Below w.heap.size w w' := by
 have hu39 := Try.underlying39
 have hu35 := Try.underlying35
 have HR0_0 := vA hr0_0
 have HC0_0 := vA hc0_0
 clear hr0_0 hc0_0
 have HR0_1 := vA hr0_1
 have HC0_1 := vA hc0_1
 clear hr0_1 hc0_1
 have HR0_2 := vA hr0_2
 have HC0_2 := vA hc0_2
 clear hr0_2 hc0_2
 have HR0_3 := vA hr0_3
 have HC0_3 := vA hc0_3
 clear hr0_3 hc0_3
 have HR1_0 := vA hr1_0
 have HC1_0 := vA hc1_0
 clear hr1_0 hc1_0
 have HR1_1 := vA hr1_1
 have HC1_1 := vA hc1_1
 clear hr1_1 hc1_1
 have HR1_2 := vA hr1_2
 have HC1_2 := vA hc1_2
 clear hr1_2 hc1_2
 have HR1_3 := vA hr1_3
 have HC1_3 := vA hc1_3
 clear hr1_3 hc1_3
 have HB := vA (Below.refl w.heap.size w)
 have H : ((laws_eqBits.f k l0_0 l0_1 l1_0 l1_1).bind fun t133 => (if t133 = true then ((laws_eqInodeS.f k l0_2 l1_2).bind fun t134 => (if t134 = true then ((laws_eqBlockS.f k l0_3 l1_3).bind fun t135 => (if t135 = true then (some true) else (some false))) else (some false))) else (some false))) = some r := h
 clear h
 replace H := Option.bind_eq_some_iff.mp H
 obtain ⟨t133, A30, H⟩ := H
 have A3 := vA A30
 clear A30
 go_enter Try.func19, Try.ntmps19
 go_wp2_with (first | ((with_reducible refine gate_dst (N := 2) rfl ?_); refine vx (N := 2) (cs := #[.slice A0_0 l0_0.length c0_0, .slice A0_1 l0_1.length c0_1, .slice A0_2 l0_2.length c0_2, .slice A0_3 l0_3.length c0_3]) (t := 39) ?_; intro gb131 hg w4 hbox hb; have BK131 := vA (hbox); have GW131 := vA ((vg hg (qb HB.out))); have GE131 := GW131; replace HB := vbs HB hb; clear hb hbox hg) | ((with_reducible refine gate_dst (N := 3) rfl ?_); refine vx (N := 3) (cs := #[.slice A1_0 l1_0.length c1_0, .slice A1_1 l1_1.length c1_1, .slice A1_2 l1_2.length c1_2, .slice A1_3 l1_3.length c1_3]) (t := 39) ?_; intro gb132 hg w5 hbox hb; have BK132 := vA (hbox); have GW132 := vA ((vg hg (vh HB))); have GE132 := GW132; replace HB := vbs HB hb; have NB131_132 := vn hg BK131; have NB132_131 := vN hg BK131; replace BK131 := vw BK131 hb; clear hb hbox hg; have hnb6 := NB131_132.out; have hnc6 := NB132_131.out; obtain ⟨hcz7_0, hcz7_1, hcz7_2, hcz7_3⟩ := v4c BK131.out; obtain ⟨hfz7_0, hfz7_1, hfz7_2, hfz7_3⟩ := v4f BK131.out; obtain ⟨hcz8_0, hcz8_1, hcz8_2, hcz8_3⟩ := v4c BK132.out; obtain ⟨hfz8_0, hfz8_1, hfz8_2, hfz8_3⟩ := v4f BK132.out) | ((with_reducible refine gate_callee (f := 65) rfl ?_); refine goesL_ (some 9) rfl rfl Try.func65 (by kernel_rfl) rfl #[.agg #[.slice A0_0 l0_0.length c0_0, .slice A0_1 l0_1.length c0_1], .agg #[.slice A1_0 l1_0.length c1_0, .slice A1_1 l1_1.length c1_1]] rfl qm ?_; (with_reducible refine (laws_eqBits.calls k _ _ l0_0 _ _ l0_1 _ _ l1_0 _ _ l1_1 t133 _ (vc HR0_0 HB) HC0_0.out (vc HR0_1 HB) HC0_1.out (vc HR1_0 HB) HC1_0.out (vc HR1_1 HB) HC1_1.out A3.out).mono ?_)))
 first | rintro e w9 rfl hb | rintro e w9 ⟨rfl, hb⟩
 refine ⟨_, rfl, ?_⟩
 replace BK131 := vw BK131 hb
 replace BK132 := vw BK132 hb
 replace HB := vbs HB hb
 (try clear hb)
 (try clear hb2)
 (try clear hk)
 (try clear hi)
 by_cases c10 : t133 = true
 ·subst c10
  rw [if_pos rfl] at H; replace H := Option.bind_eq_some_iff.mp H; obtain ⟨t134, A110, H⟩ := H; have A11 := vA A110; clear A110; have hnb12 := NB131_132.out; have hnc12 := NB132_131.out; obtain ⟨hcz13_0, hcz13_1, hcz13_2, hcz13_3⟩ := v4c BK131.out; obtain ⟨hfz13_0, hfz13_1, hfz13_2, hfz13_3⟩ := v4f BK131.out; obtain ⟨hcz14_0, hcz14_1, hcz14_2, hcz14_3⟩ := v4c BK132.out; obtain ⟨hfz14_0, hfz14_1, hfz14_2, hfz14_3⟩ := v4f BK132.out
  go_wp2_with (first | ((with_reducible refine gate_callee (f := 66) rfl ?_); refine goesL_ (some 15) rfl rfl Try.func66 (by kernel_rfl) rfl #[.slice A0_2 l0_2.length c0_2, .slice A1_2 l1_2.length c1_2] rfl qm ?_; (with_reducible refine (laws_eqInodeS.calls k _ _ l0_2 _ _ l1_2 t134 _ (vc HR0_2 HB) HC0_2.out (vc HR1_2 HB) HC1_2.out A11.out).mono ?_)))
  first | rintro e w15 rfl hb | rintro e w15 ⟨rfl, hb⟩
  refine ⟨_, rfl, ?_⟩; replace BK131 := vw BK131 hb; replace BK132 := vw BK132 hb; replace HB := vbs HB hb
  (try clear hb)
  (try clear hb2)
  (try clear hk)
  (try clear hi)
  by_cases c16 : t134 = true
  ·subst c16
   rw [if_pos rfl] at H; replace H := Option.bind_eq_some_iff.mp H; obtain ⟨t135, A170, H⟩ := H; have A17 := vA A170; clear A170; have hnb18 := NB131_132.out; have hnc18 := NB132_131.out; obtain ⟨hcz19_0, hcz19_1, hcz19_2, hcz19_3⟩ := v4c BK131.out; obtain ⟨hfz19_0, hfz19_1, hfz19_2, hfz19_3⟩ := v4f BK131.out; obtain ⟨hcz20_0, hcz20_1, hcz20_2, hcz20_3⟩ := v4c BK132.out; obtain ⟨hfz20_0, hfz20_1, hfz20_2, hfz20_3⟩ := v4f BK132.out
   go_wp2_with (first | ((with_reducible refine gate_callee (f := 67) rfl ?_); refine goesL_ (some 21) rfl rfl Try.func67 (by kernel_rfl) rfl #[.slice A0_3 l0_3.length c0_3, .slice A1_3 l1_3.length c1_3] rfl qm ?_; (with_reducible refine (laws_eqBlockS.calls k _ _ l0_3 _ _ l1_3 t135 _ (vc HR0_3 HB) HC0_3.out (vc HR1_3 HB) HC1_3.out A17.out).mono ?_)))
   first | rintro e w21 rfl hb | rintro e w21 ⟨rfl, hb⟩
   refine ⟨_, rfl, ?_⟩; replace BK131 := vw BK131 hb; replace BK132 := vw BK132 hb; replace HB := vbs HB hb
   (try clear hb)
   (try clear hb2)
   (try clear hk)
   (try clear hi)
   by_cases c22 : t135 = true
   ·subst c22
    rw [if_pos rfl] at H; obtain rfl := Option.some.inj H
    go_wp2
    go_ret
    exact ⟨qe, qb2 HB.out GE131.out GE132.out⟩
   ·replace c22 := Bool.eq_false_iff.mpr c22
    subst c22
    rw [if_neg (show ¬ (false = true) by decide)] at H
    obtain rfl := Option.some.inj H
    go_wp2
    go_ret
    exact ⟨qe, qb2 HB.out GE131.out GE132.out⟩
  ·replace c16 := Bool.eq_false_iff.mpr c16
   subst c16
   rw [if_neg (show ¬ (false = true) by decide)] at H
   obtain rfl := Option.some.inj H
   go_wp2
   go_ret
   exact ⟨qe, qb2 HB.out GE131.out GE132.out⟩
 ·replace c10 := Bool.eq_false_iff.mpr c10
  subst c10
  rw [if_neg (show ¬ (false = true) by decide)] at H
  obtain rfl := Option.some.inj H
  go_wp2
  go_ret
  exact ⟨qe, qb2 HB.out GE131.out GE132.out⟩

/-! ### laws_markBoolS: function 132 -/
def laws_markBoolS.l0 : Nat → List Bool → Int → Int → Option (Int × List Bool)
 | 0, _, _, _ => none
 | k + 1, x0, x1, x5 => if x5 < (x0.length : Int) then (if 0 ≤ x5 then (laws_markBoolS.l0 k (x0.set (x5 : Int).toNat ((Int.tmod x1 3) == 0)) (wrap64 (x1 + 1)) (wrap64 (x5 + 1))) else (none)) else (some (x1, x0))
def laws_markBoolS.f (k : Nat) (l0 : List Bool) (a1 : Int) : Option (Int × List Bool) := laws_markBoolS.l0 k l0 a1 0
set_option maxHeartbeats 8000000 in
set_option maxRecDepth 100000 in
theorem laws_markBoolS.calls (k : Nat) (P0_ : Nat → Prop) (u9000_ : Value) (l0 : List Bool) (a1 : Int) (r1 : Int) (r2 : List Bool) (w0 w : World) (hB : Below w0.heap.size w0 w) (ho0 : Kd.R Kd.bool 4 w w0.heap.size P0_ u9000_ l0) (h : laws_markBoolS.f k l0 a1 = some (r1, r2)) :
  Calls Try.prog 132 #[u9000_, .int .i64 a1] w fun e w' => e = .returned (.int .i64 r1) ∧ Kd.R Kd.bool 4 w' w0.heap.size (fun k_ => (P0_ k_ ∨ w.heap.size ≤ k_)) u9000_ r2 ∧ Below w0.heap.size w0 w' ∧ Kept w w' (fun k_ => P0_ k_) := by
 have HO0 := vA (show Kd.R Kd.bool 4 w w0.heap.size (fun k_ => (P0_ k_ ∨ w.heap.size ≤ k_)) u9000_ l0 from Kd.R_mono ho0 (fun k_ hk => (.inl hk)))
 have HK := vA (Kept.refl w (fun k_ => P0_ k_))
 have HW0 := vA hB.size
 have HB := vA hB
 clear hB
 have H : (laws_markBoolS.l0 k l0 a1 0) = some (r1, r2) := h
 clear h
 have H' := vA H
 clear H
 go_enter Try.func132, Try.ntmps132
 go_wp2
 go_loopg [1, 5] k (fun kq v1 v5 w' => ∃ (x0_1 : List Bool) (x1_1 : Int) (x5_1 : Int), v1 = .int .i64 x1_1 ∧ v5 = .int .i64 x5_1 ∧ Aside0 (laws_markBoolS.l0 kq x0_1 x1_1 x5_1 = some (r1, r2)) ∧ Aside0 (kq ≤ k) ∧ Aside0 (Kd.R Kd.bool 4 w' w0.heap.size (fun k_ => (P0_ k_ ∨ w.heap.size ≤ k_)) u9000_ x0_1) ∧ Aside0 (Kept w w' (fun k_ => P0_ k_)) ∧ Aside0 (Below w0.heap.size w0 w'))
 case atStart => exact ⟨(l0), (a1), (0), qz, qz, H', ⟨Nat.le_refl _⟩, ⟨qr HO0.out⟩, ⟨by repeat (first | (with_reducible first | exact HK.out | apply Kept.alloc | apply Kept.drewN | apply Kept.drew) | exact HK.out)⟩, ⟨qb HB.out⟩⟩
 case round =>
  clear H'
  (try clear c1); (try clear p2)
  obtain ⟨x0_1, x1_1, x5_1, rfl, rfl, HA, HK1, HO_0, HK, HB⟩ := hrel
  cases gk with
  | zero => exact absurd HA.out (by simp [laws_markBoolS.l0])
  | succ k1 =>
   have H := HA.out; clear HA
   simp only [laws_markBoolS.l0] at H
   by_cases c3 : x5_1 < (x0_1.length : Int)
   ·rw [if_pos c3] at H
    have c3b0 : decide (x5_1 < (x0_1.length : Int)) = true := decide_eq_true c3; clear c3
    by_cases c4 : 0 ≤ x5_1
    ·rw [if_pos c4] at H
     have c4b0 : decide (0 ≤ x5_1) = true := decide_eq_true c4; clear c4; obtain ⟨y136, hy136⟩ : ∃ y_ : List Bool, y_ = (x0_1.set (x5_1 : Int).toNat ((Int.tmod x1_1 3) == 0)) := ⟨_, rfl⟩
     first | rw [Option.bind_some, ← hy136] at H | rw [← hy136] at H
     have Ny136 := vA hy136; clear hy136; have H' := vA H; clear H; obtain ⟨Ao6, co6, eo6⟩ := Kd.R_slice HO_0.out; subst eo6; have p5 : 0 ≤ (x5_1 : Int) := qo; have q5 : (x5_1 : Int) < ((x0_1.length : Int) : Int) := qo
     obtain ⟨go5, co5, eo5, gb5, gl5, cl5, HG5⟩ := Kd.R_form HO_0.out (by omega)
     (first | cases eo5 | (injection eo5 with ea_ en_ ec_; (first | subst ea_ | (injection ea_ with ea_; subst ea_)); subst ec_; clear en_))
     have GB5 := vA gb5; have GG5 := vA HG5; clear gb5 gl5 HG5
     have HMgo5 := vA (show (P0_ go5 ∨ w.heap.size ≤ go5) from (HO_0.out.1 _ rfl))
     obtain ⟨hx5_0, hf5_0⟩ := Kd.R_celln false HO_0.out (x5_1 : Int) p5 q5; replace p5 := eq_true p5; replace q5 := eq_true q5; have HP7 := Kd.R_putg HO_0.out (x5_1 : Int) ((Int.tmod x1_1 3) == 0)
     go_wp2_with (first | ((with_reducible refine gate_store (t := 4) (p := 17) rfl ?_); refine store_event (t := 4) (p := 17) (v := ?vo_w8) (w1 := (wr.setCell ⟨go5, (x5_1 : Int).toNat, none⟩ (.bool ((Int.tmod x1_1 3) == 0)))) ?hg ?ho ?hn ?hr ?_; (case ho => rfl); (case hg => rfl); (case hn => rfl); (case hr => first | (go_simp; done) | (go_simp; rfl)); intro w8 hw; have hg : wr.grownBy w8 (some go5) := (by rw [hw]; exact HP7.2); have hp_ : Kd.R Kd.bool 4 w8 w0.heap.size (fun k_ => (P0_ k_ ∨ w.heap.size ≤ k_)) (.slice (some ⟨go5, 0, none⟩) x0_1.length co6) y136 := (by rw [hw, Ny136.out]; exact HP7.1); clear HP7; replace HB := vA ((by rw [hw]; exact below_set (HB.out) GB5.out : Below w0.heap.size w0 w8)); replace HK := vA (Kept.of_grown (S := (fun k_ => P0_ k_)) hg (by repeat (first | (with_reducible first | exact HK.out | apply Kept.alloc | apply Kept.drewN | apply Kept.drew) | exact HK.out)) (fun k_ e_ => (HO_0.out.1 k_ e_))); replace HO_0 := vA (hp_); clear hg hw hp_))
     go_roundg k1
     case measure => have := HK1.out; omega
     case rel => exact ⟨(y136), (wrap64 (x1_1 + 1)), (wrap64 (x5_1 + 1)), qz, qz, H', ⟨by have := HK1.out; omega⟩, ⟨qr HO_0.out⟩, ⟨by repeat (first | (with_reducible first | exact HK.out | apply Kept.alloc | apply Kept.drewN | apply Kept.drew) | exact HK.out)⟩, ⟨qb HB.out⟩⟩
    ·rw [if_neg c4] at H
     exact absurd H (by simp)
   ·rw [if_neg c3] at H
    have c3b0 : decide (x5_1 < (x0_1.length : Int)) = false := decide_eq_false c3; clear c3
    simp only [Option.some.injEq, Prod.mk.injEq] at H
    obtain ⟨rfl, rfl⟩ := H; obtain ⟨Ao9, co9, eo9⟩ := Kd.R_slice HO_0.out; subst eo9
    go_wp2
    go_ret
    exact ⟨qe, qr HO_0.out, qb HB.out, by repeat (first | (with_reducible first | exact HK.out | apply Kept.alloc | apply Kept.drewN | apply Kept.drew) | exact HK.out)⟩

end Go.Proofs.Ytdnbpapolckklaa.PFnExactDiskOf
