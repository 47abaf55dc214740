-- Written by a program of this session (a changed copy of the kit's print: wip/print2). Lean checks it.
import Derived.Test.YtdnbpapolckklaaPax
import Derived.Test.YtdnbpapolckklaaPFnExactDiskOfx0
import Derived.Test.YtdnbpapolckklaaPFnExactDiskOfx5
namespace Go.Proofs.Ytdnbpapolckklaa.PFnExactDiskOf
open Go.RowKit Go.Proofs.YtdnbpapolckklaaW.PrintWords Go.Proofs.YtdnbpapolckklaaW.PrintLast Go.Proofs.YtdnbpapolckklaaW.PrintMore
attribute [local go_sem] max2_int min2_int max_two min_two max_three min_three max_four min_four   -- for this text's walks alone
attribute [local go_sem] Go.Proofs.Ytdnbpapolckklaa.Pad.isSome_setCell
set_option linter.unusedVariables false
set_option linter.unusedSimpArgs false

/-! ### laws_heldSlotS: function 107 -/
def laws_heldSlotS.l0 : Nat → List (S69) → Int → Int → Option (Int)
 | 0, _, _, _ => none
 | k + 1, x0, x1, x5 => if x5 < (x0.length : Int) then (if 0 ≤ x5 then ((laws_markText.f k x1).bind fun t425 => (if ((rd_T69 x0 x5).f0).toList = t425.toList then (if ((rd_T69 x0 x5).f1) = (wrap64 (x1 + 1)) then (laws_heldSlotS.l0 k x0 (wrap64 ((wrap64 (x1 + 1)) + 1)) (wrap64 (x5 + 1))) else (some (-1))) else (some (-1)))) else (none)) else (some x1)
def laws_heldSlotS.f (k : Nat) (l0 : List (S69)) (a1 : Int) : Option (Int) := laws_heldSlotS.l0 k l0 a1 0
def laws_heldSlotS.T4 : Bool × List (List Nat × List Nat) := (true, [([], []), ([], []), ([0, 1], [0, 1]), ([2], [2]), ([3], [3]), ([], []), ([5], [5]), ([4, 6], [4, 6])])
def laws_heldSlotS.B4 : List Nat := [0, 0, 3, 7, 15, 0, 32, 127]
theorem laws_heldSlotS.tab4 : rtab .any (opsOf Try.f107 4) = laws_heldSlotS.T4 := by kernel_rfl
theorem laws_heldSlotS.bits4 : waitsOk laws_heldSlotS.T4.2 laws_heldSlotS.B4 = true := by kernel_rfl
set_option maxHeartbeats 8000000 in
set_option maxRecDepth 100000 in
theorem laws_heldSlotS.calls (k : Nat) (A0 : Option Addr) (c0 : Nat) (l0 : List (S69)) (a1 : Int) (r : Int) (w : World) (hr0 : Kd.C k69 w A0 l0.length l0) (hc0 : l0.length ≤ c0) (h : laws_heldSlotS.f k l0 a1 = some r) :
  Calls Try.prog 107 #[.slice A0 l0.length c0, .int .i64 a1] w fun e w' => e = .returned (.int .i64 r) ∧ Below w.heap.size w w' := by
 have HR0 := vA hr0
 have HC0 := vA hc0
 clear hr0 hc0
 have HB := vA (Below.refl w.heap.size w)
 have H : (laws_heldSlotS.l0 k l0 a1 0) = some r := h
 clear h
 have H' := vA H
 clear H
 go_enter Try.func107, Try.ntmps107
 go_wp2
 go_loopg [1, 5] k (fun kq v1 v5 w' => ∃ (x1_1 : Int) (x5_1 : Int), v1 = .int .i64 x1_1 ∧ v5 = .int .i64 x5_1 ∧ Aside0 (laws_heldSlotS.l0 kq l0 x1_1 x5_1 = some r) ∧ Aside0 (kq ≤ k) ∧ Aside0 (Below w.heap.size w w'))
 case atStart => exact ⟨(a1), (0), qz, qz, H', ⟨Nat.le_refl _⟩, ⟨qb HB.out⟩⟩
 case round =>
  clear H'
  (try clear c1); (try clear p2)
  obtain ⟨x1_1, x5_1, rfl, rfl, HA, HK1, HB⟩ := hrel
  cases gk with
  | zero => exact absurd HA.out (by simp [laws_heldSlotS.l0])
  | succ k1 =>
   have H := HA.out; clear HA
   simp only [laws_heldSlotS.l0] at H
   by_cases c3 : x5_1 < (l0.length : Int)
   ·rw [if_pos c3] at H
    have c3b0 : decide (x5_1 < (l0.length : Int)) = true := decide_eq_true c3; clear c3
    by_cases c4 : 0 ≤ x5_1
    ·rw [if_pos c4] at H
     have c4b0 : decide (0 ≤ x5_1) = true := decide_eq_true c4; clear c4; replace H := Option.bind_eq_some_iff.mp H; obtain ⟨t425, A50, H⟩ := H; have A5 := vA A50; clear A50
     by_cases c6 : ((rd_T69 l0 x5_1).f0).toList = t425.toList
     ·rw [if_pos c6] at H
      have c6b0 : (((rd_T69 l0 x5_1).f0).toList == t425.toList) = true := beq_iff_eq.mpr c6; have c6b1 : (((rd_T69 l0 x5_1).f0).toList != t425.toList) = false := bne_eq_false_iff_eq.mpr c6; clear c6
      by_cases c7 : ((rd_T69 l0 x5_1).f1) = (wrap64 (x1_1 + 1))
      ·rw [if_pos c7] at H
       have c7b0 : (((rd_T69 l0 x5_1).f1) == (wrap64 (x1_1 + 1))) = true := beq_iff_eq.mpr c7; have c7b1 : (((rd_T69 l0 x5_1).f1) != (wrap64 (x1_1 + 1))) = false := bne_eq_false_iff_eq.mpr c7; clear c7; have H' := vA H; clear H
       try go_wp2
       replace HB := vA (below_drew1 HB.out); have p424 : 0 ≤ (x5_1 : Int) := qo; have q424 : x5_1 < (l0.length : Int) := qo; obtain ⟨ad424, e424, hx424_0, hx424_1⟩ := at_T69 HR0.out x5_1 p424 q424; have hw424_1 := hx424_1; have hw424_0 := hx424_0
       cases e424
       replace hx424_0 := qc HB.out hx424_0; replace hx424_1 := qc HB.out hx424_1; replace p424 := eq_true p424; replace q424 := eq_true q424
       refine start_ (n := 8) (S := fun w' => w'.cell? (ad424.add ((x5_1).toNat * 2)) = some (.string ((rd_T69 l0 x5_1).f0)) ∧ w'.cell? ⟨(ad424.add ((x5_1).toNat * 2)).block, (ad424.add ((x5_1).toNat * 2)).off + 1, none⟩ = some (.int .i64 ((rd_T69 l0 x5_1).f1))) (ds := []) #[false, false, false, false, false, false, false, false] (by kernel_rfl) rfl rfl ⟨(qc HB.out hw424_0), (qc HB.out hw424_1)⟩ (fun hHeld => ?_); refine with_tabW laws_heldSlotS.tab4 laws_heldSlotS.bits4 (fun HT_ HW_ => ?_)
       generalize wr.drew = w8 at HB hx424_0 hx424_1 hHeld ⊢
       refine pure_ (i := 0) (N := some 12) (v := ?_) (a' := ?_) #[true, false, false, false, false, false, false, false] rfl rfl (any_of HT_.out (by kernel_rfl)) (fun _ _ _ h => h) (Or.inl ⟨by rfl, ?_⟩) ?_ ?_
       rotate_left
       ·intro w'
        go_simp
        with_reducible rfl
       rotate_left
       ·refine qp ?_
        rfl
       refine pure_ (i := 1) (N := some 13) (v := ?_) (a' := ?_) #[true, true, false, false, false, false, false, false] rfl rfl (any_of HT_.out (by kernel_rfl)) (fun _ _ _ h => h) (Or.inl ⟨by rfl, ?_⟩) ?_ ?_
       rotate_left
       ·intro w'
        go_simp
        with_reducible rfl
       rotate_left
       ·refine qp ?_
        rfl
       refine pure_ (i := 2) (N := some 14) (v := ?_) (a' := ?_) #[true, true, true, false, false, false, false, false] rfl rfl (any_of HT_.out (by kernel_rfl)) (fun _ _ _ h => h) (Or.inl ⟨by rfl, ?_⟩) ?_ ?_
       rotate_left
       ·intro w'
        go_simp
        with_reducible rfl
       rotate_left
       ·refine qp ?_
        rfl
       refine pure_ (i := 3) (N := some 15) (v := ?_) (a' := ?_) #[true, true, true, true, false, false, false, false] rfl rfl (any_of HT_.out (by kernel_rfl)) (fun _ _ _ h => h) (Or.inl ⟨by rfl, ?_⟩) ?_ ?_
       rotate_left
       ·intro w'
        go_simp
        with_reducible rfl
       rotate_left
       ·refine qp ?_
        rfl
       refine pure_ (i := 5) (N := some 17) (v := ?_) (a' := ?_) #[true, true, true, true, false, true, false, false] rfl rfl (any_of HT_.out (by kernel_rfl)) (fun _ _ _ h => h) (Or.inl ⟨by rfl, ?_⟩) ?_ ?_
       rotate_left
       ·intro w'
        go_simp
        with_reducible rfl
       rotate_left
       ·refine qp ?_
        rfl
       refine take_ (i := 4) (N := some 16) (v := ?_) (a' := ?_) #[true, true, true, true, true, true, false, false] rfl rfl (take_ofW HT_.out HW_.out (by kernel_rfl)) (fun _ _ _ h => h) (Or.inl ⟨by rfl, ?_⟩) hHeld ?_ ?_
       rotate_left
       ·rintro w' ⟨s0, s1⟩
        go_simp
        with_reducible rfl
       rotate_left
       ·refine qp ?_
        rfl
       refine one_ (i := 6) (N := some 18) #[true, true, true, true, true, true, true, false] rfl rfl (one_of HT_.out (by kernel_rfl)) (by decide) (fun K hK => ?_)
       refine goes_ Try.func134 (by kernel_rfl) rfl #[.int .i64 x1_1] (by rfl) rfl rfl qm ?_
       with_reducible refine (laws_markText.calls k1 x1_1 t425 _ A5.out).mono ?_
       rintro e w9 ⟨rfl, hb⟩; refine ⟨_, rfl, ?_⟩; replace HB := vbs HB hb; clear hb
       refine hK.out _ _ ⟨(qc HB.out hw424_0), (qc HB.out hw424_1)⟩ (fun hHeld => ?_)
       clear hK K; refine norm_ (a' := ?_) ?_ ?_; rotate_left
       ·show Act.put _ (some 18) _ = _
        refine qp ?_
        rfl
       refine pure_ (i := 7) (N := some 19) (v := ?_) (a' := ?_) #[true, true, true, true, true, true, true, true] rfl rfl (any_of HT_.out (by kernel_rfl)) (fun _ _ _ h => h) (Or.inl ⟨by rfl, ?_⟩) ?_ ?_
       rotate_left
       ·intro w'
        go_simp
        with_reducible rfl
       rotate_left
       ·refine qp ?_
        rfl
       refine done_ (done_of HT_.out (by kernel_rfl)) ?_
       have p426 : 0 ≤ (x5_1 : Int) := qo; have q426 : x5_1 < (l0.length : Int) := qo; obtain ⟨ad426, e426, hx426_0, hx426_1⟩ := at_T69 HR0.out x5_1 p426 q426
       obtain rfl : ad424 = ad426 := (by injection e426)
       replace hx426_0 := qc HB.out hx426_0; replace hx426_1 := qc HB.out hx426_1; replace p426 := eq_true p426; replace q426 := eq_true q426
       try go_wp2
       go_roundg k1
       case measure => have := HK1.out; omega
       case rel => exact ⟨(wrap64 ((wrap64 (x1_1 + 1)) + 1)), (wrap64 (x5_1 + 1)), qz, qz, H', ⟨by have := HK1.out; omega⟩, ⟨qb HB.out⟩⟩
      ·rw [if_neg c7] at H
       have c7b0 : (((rd_T69 l0 x5_1).f1) == (wrap64 (x1_1 + 1))) = false := beq_eq_false_iff_ne.mpr c7; have c7b1 : (((rd_T69 l0 x5_1).f1) != (wrap64 (x1_1 + 1))) = true := bne_iff_ne.mpr c7; obtain rfl := Option.some.inj H
       try go_wp2
       replace HB := vA (below_drew1 HB.out); have p424 : 0 ≤ (x5_1 : Int) := qo; have q424 : x5_1 < (l0.length : Int) := qo; obtain ⟨ad424, e424, hx424_0, hx424_1⟩ := at_T69 HR0.out x5_1 p424 q424; have hw424_1 := hx424_1; have hw424_0 := hx424_0
       cases e424
       replace hx424_0 := qc HB.out hx424_0; replace hx424_1 := qc HB.out hx424_1; replace p424 := eq_true p424; replace q424 := eq_true q424
       refine start_ (n := 8) (S := fun w' => w'.cell? (ad424.add ((x5_1).toNat * 2)) = some (.string ((rd_T69 l0 x5_1).f0)) ∧ w'.cell? ⟨(ad424.add ((x5_1).toNat * 2)).block, (ad424.add ((x5_1).toNat * 2)).off + 1, none⟩ = some (.int .i64 ((rd_T69 l0 x5_1).f1))) (ds := []) #[false, false, false, false, false, false, false, false] (by kernel_rfl) rfl rfl ⟨(qc HB.out hw424_0), (qc HB.out hw424_1)⟩ (fun hHeld => ?_); refine with_tabW laws_heldSlotS.tab4 laws_heldSlotS.bits4 (fun HT_ HW_ => ?_)
       generalize wr.drew = w10 at HB hx424_0 hx424_1 hHeld ⊢
       refine pure_ (i := 0) (N := some 12) (v := ?_) (a' := ?_) #[true, false, false, false, false, false, false, false] rfl rfl (any_of HT_.out (by kernel_rfl)) (fun _ _ _ h => h) (Or.inl ⟨by rfl, ?_⟩) ?_ ?_
       rotate_left
       ·intro w'
        go_simp
        with_reducible rfl
       rotate_left
       ·refine qp ?_
        rfl
       refine pure_ (i := 1) (N := some 13) (v := ?_) (a' := ?_) #[true, true, false, false, false, false, false, false] rfl rfl (any_of HT_.out (by kernel_rfl)) (fun _ _ _ h => h) (Or.inl ⟨by rfl, ?_⟩) ?_ ?_
       rotate_left
       ·intro w'
        go_simp
        with_reducible rfl
       rotate_left
       ·refine qp ?_
        rfl
       refine pure_ (i := 2) (N := some 14) (v := ?_) (a' := ?_) #[true, true, true, false, false, false, false, false] rfl rfl (any_of HT_.out (by kernel_rfl)) (fun _ _ _ h => h) (Or.inl ⟨by rfl, ?_⟩) ?_ ?_
       rotate_left
       ·intro w'
        go_simp
        with_reducible rfl
       rotate_left
       ·refine qp ?_
        rfl
       refine pure_ (i := 3) (N := some 15) (v := ?_) (a' := ?_) #[true, true, true, true, false, false, false, false] rfl rfl (any_of HT_.out (by kernel_rfl)) (fun _ _ _ h => h) (Or.inl ⟨by rfl, ?_⟩) ?_ ?_
       rotate_left
       ·intro w'
        go_simp
        with_reducible rfl
       rotate_left
       ·refine qp ?_
        rfl
       refine pure_ (i := 5) (N := some 17) (v := ?_) (a' := ?_) #[true, true, true, true, false, true, false, false] rfl rfl (any_of HT_.out (by kernel_rfl)) (fun _ _ _ h => h) (Or.inl ⟨by rfl, ?_⟩) ?_ ?_
       rotate_left
       ·intro w'
        go_simp
        with_reducible rfl
       rotate_left
       ·refine qp ?_
        rfl
       refine take_ (i := 4) (N := some 16) (v := ?_) (a' := ?_) #[true, true, true, true, true, true, false, false] rfl rfl (take_ofW HT_.out HW_.out (by kernel_rfl)) (fun _ _ _ h => h) (Or.inl ⟨by rfl, ?_⟩) hHeld ?_ ?_
       rotate_left
       ·rintro w' ⟨s0, s1⟩
        go_simp
        with_reducible rfl
       rotate_left
       ·refine qp ?_
        rfl
       refine one_ (i := 6) (N := some 18) #[true, true, true, true, true, true, true, false] rfl rfl (one_of HT_.out (by kernel_rfl)) (by decide) (fun K hK => ?_)
       refine goes_ Try.func134 (by kernel_rfl) rfl #[.int .i64 x1_1] (by rfl) rfl rfl qm ?_
       with_reducible refine (laws_markText.calls k1 x1_1 t425 _ A5.out).mono ?_
       rintro e w11 ⟨rfl, hb⟩; refine ⟨_, rfl, ?_⟩; replace HB := vbs HB hb; clear hb
       refine hK.out _ _ ⟨(qc HB.out hw424_0), (qc HB.out hw424_1)⟩ (fun hHeld => ?_)
       clear hK K; refine norm_ (a' := ?_) ?_ ?_; rotate_left
       ·show Act.put _ (some 18) _ = _
        refine qp ?_
        rfl
       refine pure_ (i := 7) (N := some 19) (v := ?_) (a' := ?_) #[true, true, true, true, true, true, true, true] rfl rfl (any_of HT_.out (by kernel_rfl)) (fun _ _ _ h => h) (Or.inl ⟨by rfl, ?_⟩) ?_ ?_
       rotate_left
       ·intro w'
        go_simp
        with_reducible rfl
       rotate_left
       ·refine qp ?_
        rfl
       refine done_ (done_of HT_.out (by kernel_rfl)) ?_
       have p426 : 0 ≤ (x5_1 : Int) := qo; have q426 : x5_1 < (l0.length : Int) := qo; obtain ⟨ad426, e426, hx426_0, hx426_1⟩ := at_T69 HR0.out x5_1 p426 q426
       obtain rfl : ad424 = ad426 := (by injection e426)
       replace hx426_0 := qc HB.out hx426_0; replace hx426_1 := qc HB.out hx426_1; replace p426 := eq_true p426; replace q426 := eq_true q426
       try go_wp2
       go_ret
       exact ⟨qe, qb HB.out⟩
     ·rw [if_neg c6] at H
      have c6b0 : (((rd_T69 l0 x5_1).f0).toList == t425.toList) = false := beq_eq_false_iff_ne.mpr c6; have c6b1 : (((rd_T69 l0 x5_1).f0).toList != t425.toList) = true := bne_iff_ne.mpr c6; obtain rfl := Option.some.inj H
      try go_wp2
      replace HB := vA (below_drew1 HB.out); have p424 : 0 ≤ (x5_1 : Int) := qo; have q424 : x5_1 < (l0.length : Int) := qo; obtain ⟨ad424, e424, hx424_0, hx424_1⟩ := at_T69 HR0.out x5_1 p424 q424; have hw424_1 := hx424_1; have hw424_0 := hx424_0
      cases e424
      replace hx424_0 := qc HB.out hx424_0; replace hx424_1 := qc HB.out hx424_1; replace p424 := eq_true p424; replace q424 := eq_true q424
      refine start_ (n := 8) (S := fun w' => w'.cell? (ad424.add ((x5_1).toNat * 2)) = some (.string ((rd_T69 l0 x5_1).f0)) ∧ w'.cell? ⟨(ad424.add ((x5_1).toNat * 2)).block, (ad424.add ((x5_1).toNat * 2)).off + 1, none⟩ = some (.int .i64 ((rd_T69 l0 x5_1).f1))) (ds := []) #[false, false, false, false, false, false, false, false] (by kernel_rfl) rfl rfl ⟨(qc HB.out hw424_0), (qc HB.out hw424_1)⟩ (fun hHeld => ?_); refine with_tabW laws_heldSlotS.tab4 laws_heldSlotS.bits4 (fun HT_ HW_ => ?_)
      generalize wr.drew = w12 at HB hx424_0 hx424_1 hHeld ⊢
      refine pure_ (i := 0) (N := some 12) (v := ?_) (a' := ?_) #[true, false, false, false, false, false, false, false] rfl rfl (any_of HT_.out (by kernel_rfl)) (fun _ _ _ h => h) (Or.inl ⟨by rfl, ?_⟩) ?_ ?_
      rotate_left
      ·intro w'
       go_simp
       with_reducible rfl
      rotate_left
      ·refine qp ?_
       rfl
      refine pure_ (i := 1) (N := some 13) (v := ?_) (a' := ?_) #[true, true, false, false, false, false, false, false] rfl rfl (any_of HT_.out (by kernel_rfl)) (fun _ _ _ h => h) (Or.inl ⟨by rfl, ?_⟩) ?_ ?_
      rotate_left
      ·intro w'
       go_simp
       with_reducible rfl
      rotate_left
      ·refine qp ?_
       rfl
      refine pure_ (i := 2) (N := some 14) (v := ?_) (a' := ?_) #[true, true, true, false, false, false, false, false] rfl rfl (any_of HT_.out (by kernel_rfl)) (fun _ _ _ h => h) (Or.inl ⟨by rfl, ?_⟩) ?_ ?_
      rotate_left
      ·intro w'
       go_simp
       with_reducible rfl
      rotate_left
      ·refine qp ?_
       rfl
      refine pure_ (i := 3) (N := some 15) (v := ?_) (a' := ?_) #[true, true, true, true, false, false, false, false] rfl rfl (any_of HT_.out (by kernel_rfl)) (fun _ _ _ h => h) (Or.inl ⟨by rfl, ?_⟩) ?_ ?_
      rotate_left
      ·intro w'
       go_simp
       with_reducible rfl
      rotate_left
      ·refine qp ?_
       rfl
      refine pure_ (i := 5) (N := some 17) (v := ?_) (a' := ?_) #[true, true, true, true, false, true, false, false] rfl rfl (any_of HT_.out (by kernel_rfl)) (fun _ _ _ h => h) (Or.inl ⟨by rfl, ?_⟩) ?_ ?_
      rotate_left
      ·intro w'
       go_simp
       with_reducible rfl
      rotate_left
      ·refine qp ?_
       rfl
      refine take_ (i := 4) (N := some 16) (v := ?_) (a' := ?_) #[true, true, true, true, true, true, false, false] rfl rfl (take_ofW HT_.out HW_.out (by kernel_rfl)) (fun _ _ _ h => h) (Or.inl ⟨by rfl, ?_⟩) hHeld ?_ ?_
      rotate_left
      ·rintro w' ⟨s0, s1⟩
       go_simp
       with_reducible rfl
      rotate_left
      ·refine qp ?_
       rfl
      refine one_ (i := 6) (N := some 18) #[true, true, true, true, true, true, true, false] rfl rfl (one_of HT_.out (by kernel_rfl)) (by decide) (fun K hK => ?_)
      refine goes_ Try.func134 (by kernel_rfl) rfl #[.int .i64 x1_1] (by rfl) rfl rfl qm ?_
      with_reducible refine (laws_markText.calls k1 x1_1 t425 _ A5.out).mono ?_
      rintro e w13 ⟨rfl, hb⟩; refine ⟨_, rfl, ?_⟩; replace HB := vbs HB hb; clear hb
      refine hK.out _ _ ⟨(qc HB.out hw424_0), (qc HB.out hw424_1)⟩ (fun hHeld => ?_)
      clear hK K; refine norm_ (a' := ?_) ?_ ?_; rotate_left
      ·show Act.put _ (some 18) _ = _
       refine qp ?_
       rfl
      refine pure_ (i := 7) (N := some 19) (v := ?_) (a' := ?_) #[true, true, true, true, true, true, true, true] rfl rfl (any_of HT_.out (by kernel_rfl)) (fun _ _ _ h => h) (Or.inl ⟨by rfl, ?_⟩) ?_ ?_
      rotate_left
      ·intro w'
       go_simp
       with_reducible rfl
      rotate_left
      ·refine qp ?_
       rfl
      refine done_ (done_of HT_.out (by kernel_rfl)) ?_
      try go_wp2
      go_ret
      exact ⟨qe, qb HB.out⟩
    ·rw [if_neg c4] at H
     exact absurd H (by simp)
   ·rw [if_neg c3] at H
    have c3b0 : decide (x5_1 < (l0.length : Int)) = false := decide_eq_false c3; clear c3; obtain rfl := Option.some.inj H
    go_wp2
    go_ret
    exact ⟨qe, qb HB.out⟩

/-! ### laws_heldBlockS: function 87 -/
def laws_heldBlockS.l0 : Nat → List (S59) → Int → Int → Option (Int)
 | 0, _, _, _ => none
 | k + 1, x0, x1, x5 => if x5 < (x0.length : Int) then (if 0 ≤ x5 then (if (((rd_T59 x0 x5).f0) != ((Int.tmod x1 3) == 0)) = true then (some (-1)) else ((laws_heldSlotS.f k ((rd_T59 x0 x5).f1) (wrap64 (x1 + 1))).bind fun t429 => (if t429 < 0 then (some (-1)) else ((laws_markText.f k t429).bind fun t431 => (if ((rd_T59 x0 x5).f2).toList = t431.toList then (laws_heldBlockS.l0 k x0 (wrap64 (t429 + 1)) (wrap64 (x5 + 1))) else (some (-1))))))) else (none)) else (some x1)
def laws_heldBlockS.f (k : Nat) (l0 : List (S59)) (a1 : Int) : Option (Int) := laws_heldBlockS.l0 k l0 a1 0
def laws_heldBlockS.T10 : Bool × List (List Nat × List Nat) := (true, [([], []), ([], []), ([0, 1], [0, 1]), ([2], [2]), ([3], [3]), ([], []), ([5], [5]), ([4, 6], [4, 6])])
def laws_heldBlockS.B10 : List Nat := [0, 0, 3, 7, 15, 0, 32, 127]
theorem laws_heldBlockS.tab10 : rtab .any (opsOf Try.f87 10) = laws_heldBlockS.T10 := by kernel_rfl
theorem laws_heldBlockS.bits10 : waitsOk laws_heldBlockS.T10.2 laws_heldBlockS.B10 = true := by kernel_rfl
set_option maxHeartbeats 8000000 in
set_option maxRecDepth 100000 in
theorem laws_heldBlockS.calls (k : Nat) (A0 : Option Addr) (c0 : Nat) (l0 : List (S59)) (a1 : Int) (r : Int) (w : World) (hr0 : Kd.C k59 w A0 l0.length l0) (hc0 : l0.length ≤ c0) (h : laws_heldBlockS.f k l0 a1 = some r) :
  Calls Try.prog 87 #[.slice A0 l0.length c0, .int .i64 a1] w fun e w' => e = .returned (.int .i64 r) ∧ Below w.heap.size w w' := by
 have HR0 := vA hr0
 have HC0 := vA hc0
 clear hr0 hc0
 have HB := vA (Below.refl w.heap.size w)
 have H : (laws_heldBlockS.l0 k l0 a1 0) = some r := h
 clear h
 have H' := vA H
 clear H
 go_enter Try.func87, Try.ntmps87
 go_wp2
 go_loopg [1, 5] k (fun kq v1 v5 w' => ∃ (x1_1 : Int) (x5_1 : Int), v1 = .int .i64 x1_1 ∧ v5 = .int .i64 x5_1 ∧ Aside0 (laws_heldBlockS.l0 kq l0 x1_1 x5_1 = some r) ∧ Aside0 (kq ≤ k) ∧ Aside0 (Below w.heap.size w w'))
 case atStart => exact ⟨(a1), (0), qz, qz, H', ⟨Nat.le_refl _⟩, ⟨qb HB.out⟩⟩
 case round =>
  clear H'
  (try clear p2)
  obtain ⟨x1_1, x5_1, rfl, rfl, HA, HK1, HB⟩ := hrel
  cases gk with
  | zero => exact absurd HA.out (by simp [laws_heldBlockS.l0])
  | succ k1 =>
   have H := HA.out; clear HA
   simp only [laws_heldBlockS.l0] at H
   by_cases c3 : x5_1 < (l0.length : Int)
   ·rw [if_pos c3] at H
    have c3b0 : decide (x5_1 < (l0.length : Int)) = true := decide_eq_true c3; clear c3
    by_cases c4 : 0 ≤ x5_1
    ·rw [if_pos c4] at H
     have c4b0 : decide (0 ≤ x5_1) = true := decide_eq_true c4; clear c4
     by_cases c5 : (((rd_T59 l0 x5_1).f0) != ((Int.tmod x1_1 3) == 0)) = true
     ·rw [if_pos c5] at H
      have c5b0 : (((rd_T59 l0 x5_1).f0) != ((Int.tmod x1_1 3) == 0)) = true := c5
      (try (have c5b1 : decide (((rd_T59 l0 x5_1).f0) = ((Int.tmod x1_1 3) == 0)) = false := by simpa using c5))
      (try (have c5b2 : (((rd_T59 l0 x5_1).f0) == ((Int.tmod x1_1 3) == 0)) = false := by simpa using c5))
      (try (have c5b3 : ¬ (((rd_T59 l0 x5_1).f0) = ((Int.tmod x1_1 3) == 0)) := by simpa using c5))
      clear c5; obtain rfl := Option.some.inj H; have p427 : 0 ≤ (x5_1 : Int) := qo; have q427 : x5_1 < (l0.length : Int) := qo; obtain ⟨ad427, A427_1, c427_1, e427, hx427_0, hx427_1, hx427_2, hl427_1, hi427_1⟩ := at_T59 HR0.out x5_1 p427 q427
      cases e427
      replace hx427_0 := qc HB.out hx427_0; replace hx427_1 := qc HB.out hx427_1; replace hx427_2 := qc HB.out hx427_2; have HR427_1 := vA hi427_1; have HC427_1 := vA hl427_1; clear hi427_1 hl427_1; replace p427 := eq_true p427; replace q427 := eq_true q427
      go_wp2
      go_ret
      exact ⟨qe, qb HB.out⟩
     ·rw [if_neg c5] at H
      have c5b0 : (((rd_T59 l0 x5_1).f0) != ((Int.tmod x1_1 3) == 0)) = false := by simpa using c5
      (try (have c5b1 : decide (((rd_T59 l0 x5_1).f0) = ((Int.tmod x1_1 3) == 0)) = true := by simpa using c5))
      (try (have c5b2 : (((rd_T59 l0 x5_1).f0) == ((Int.tmod x1_1 3) == 0)) = true := by simpa using c5))
      clear c5; replace H := Option.bind_eq_some_iff.mp H; obtain ⟨t429, A60, H⟩ := H; have A6 := vA A60; clear A60
      by_cases c7 : t429 < 0
      ·rw [if_pos c7] at H
       have c7b0 : decide (t429 < 0) = true := decide_eq_true c7; clear c7; obtain rfl := Option.some.inj H; have p427 : 0 ≤ (x5_1 : Int) := qo; have q427 : x5_1 < (l0.length : Int) := qo; obtain ⟨ad427, A427_1, c427_1, e427, hx427_0, hx427_1, hx427_2, hl427_1, hi427_1⟩ := at_T59 HR0.out x5_1 p427 q427
       cases e427
       replace hx427_0 := qc HB.out hx427_0; replace hx427_1 := qc HB.out hx427_1; replace hx427_2 := qc HB.out hx427_2; have HR427_1 := vA hi427_1; have HC427_1 := vA hl427_1; clear hi427_1 hl427_1; replace p427 := eq_true p427; replace q427 := eq_true q427; have p428 : 0 ≤ (x5_1 : Int) := qo; have q428 : x5_1 < (l0.length : Int) := qo; obtain ⟨ad428, A428_1, c428_1, e428, hx428_0, hx428_1, hx428_2, hl428_1, hi428_1⟩ := at_T59 HR0.out x5_1 p428 q428
       obtain rfl : ad427 = ad428 := (by injection e428)
       replace hx428_0 := qc HB.out hx428_0; replace hx428_1 := qc HB.out hx428_1; replace hx428_2 := qc HB.out hx428_2; have HR428_1 := vA hi428_1; have HC428_1 := vA hl428_1; clear hi428_1 hl428_1; replace p428 := eq_true p428; replace q428 := eq_true q428; have ea_ := Option.some.inj (hx427_1.symm.trans hx428_1); injection ea_ with ea_ en_ ec_; subst ea_; subst ec_; clear en_
       go_wp2_with (first | ((with_reducible refine gate_callee (f := 107) rfl ?_); refine goesL_ (some 29) rfl rfl Try.func107 (by kernel_rfl) rfl #[.slice A427_1 ((rd_T59 l0 x5_1).f1).length c427_1, .int .i64 (wrap64 (x1_1 + 1))] rfl qm ?_; (with_reducible refine (laws_heldSlotS.calls k1 _ _ ((rd_T59 l0 x5_1).f1) (wrap64 (x1_1 + 1)) t429 _ (vc HR428_1 HB) HC428_1.out A6.out).mono ?_); rintro e w8 ⟨rfl, hb⟩; refine ⟨_, rfl, ?_⟩; replace HB := vbs HB hb; clear hb))
       go_ret
       exact ⟨qe, qb HB.out⟩
      ·rw [if_neg c7] at H
       have c7b0 : decide (t429 < 0) = false := decide_eq_false c7; clear c7; replace H := Option.bind_eq_some_iff.mp H; obtain ⟨t431, A90, H⟩ := H; have A9 := vA A90; clear A90
       by_cases c10 : ((rd_T59 l0 x5_1).f2).toList = t431.toList
       ·rw [if_pos c10] at H
        have c10b0 : (((rd_T59 l0 x5_1).f2).toList == t431.toList) = true := beq_iff_eq.mpr c10; have c10b1 : (((rd_T59 l0 x5_1).f2).toList != t431.toList) = false := bne_eq_false_iff_eq.mpr c10; clear c10; have H' := vA H; clear H; have p427 : 0 ≤ (x5_1 : Int) := qo; have q427 : x5_1 < (l0.length : Int) := qo; obtain ⟨ad427, A427_1, c427_1, e427, hx427_0, hx427_1, hx427_2, hl427_1, hi427_1⟩ := at_T59 HR0.out x5_1 p427 q427
        cases e427
        replace hx427_0 := qc HB.out hx427_0; replace hx427_1 := qc HB.out hx427_1; replace hx427_2 := qc HB.out hx427_2; have HR427_1 := vA hi427_1; have HC427_1 := vA hl427_1; clear hi427_1 hl427_1; replace p427 := eq_true p427; replace q427 := eq_true q427; have p428 : 0 ≤ (x5_1 : Int) := qo; have q428 : x5_1 < (l0.length : Int) := qo; obtain ⟨ad428, A428_1, c428_1, e428, hx428_0, hx428_1, hx428_2, hl428_1, hi428_1⟩ := at_T59 HR0.out x5_1 p428 q428
        obtain rfl : ad427 = ad428 := (by injection e428)
        replace hx428_0 := qc HB.out hx428_0; replace hx428_1 := qc HB.out hx428_1; replace hx428_2 := qc HB.out hx428_2; have HR428_1 := vA hi428_1; have HC428_1 := vA hl428_1; clear hi428_1 hl428_1; replace p428 := eq_true p428; replace q428 := eq_true q428; have ea_ := Option.some.inj (hx427_1.symm.trans hx428_1); injection ea_ with ea_ en_ ec_; subst ea_; subst ec_; clear en_
        try go_wp2_with (first | ((with_reducible refine gate_callee (f := 107) rfl ?_); refine goesL_ (some 29) rfl rfl Try.func107 (by kernel_rfl) rfl #[.slice A427_1 ((rd_T59 l0 x5_1).f1).length c427_1, .int .i64 (wrap64 (x1_1 + 1))] rfl qm ?_; (with_reducible refine (laws_heldSlotS.calls k1 _ _ ((rd_T59 l0 x5_1).f1) (wrap64 (x1_1 + 1)) t429 _ (vc HR428_1 HB) HC428_1.out A6.out).mono ?_); rintro e w11 ⟨rfl, hb⟩; refine ⟨_, rfl, ?_⟩; replace HB := vbs HB hb; clear hb))
        replace HB := vA (below_drew1 HB.out); have p430 : 0 ≤ (x5_1 : Int) := qo; have q430 : x5_1 < (l0.length : Int) := qo; obtain ⟨ad430, A430_1, c430_1, e430, hx430_0, hx430_1, hx430_2, hl430_1, hi430_1⟩ := at_T59 HR0.out x5_1 p430 q430; have hw430_2 := hx430_2; have hw430_1 := hx430_1; have hw430_0 := hx430_0
        obtain rfl : ad427 = ad430 := (by injection e430)
        replace hx430_0 := qc HB.out hx430_0; replace hx430_1 := qc HB.out hx430_1; replace hx430_2 := qc HB.out hx430_2; have HR430_1 := vA hi430_1; have HC430_1 := vA hl430_1; clear hi430_1 hl430_1; replace p430 := eq_true p430; replace q430 := eq_true q430
        refine start_ (n := 8) (S := fun w' => w'.cell? (ad427.add ((x5_1).toNat * 3)) = some (.bool ((rd_T59 l0 x5_1).f0)) ∧ w'.cell? ⟨(ad427.add ((x5_1).toNat * 3)).block, (ad427.add ((x5_1).toNat * 3)).off + 1, none⟩ = some (.slice A430_1 ((rd_T59 l0 x5_1).f1).length c430_1) ∧ w'.cell? ⟨(ad427.add ((x5_1).toNat * 3)).block, (ad427.add ((x5_1).toNat * 3)).off + 2, none⟩ = some (.string ((rd_T59 l0 x5_1).f2))) (ds := []) #[false, false, false, false, false, false, false, false] (by kernel_rfl) rfl rfl ⟨(qc HB.out hw430_0), (qc HB.out hw430_1), (qc HB.out hw430_2)⟩ (fun hHeld => ?_); refine with_tabW laws_heldBlockS.tab10 laws_heldBlockS.bits10 (fun HT_ HW_ => ?_)
        generalize w11.drew = w12 at HB HR430_1 hx430_0 hx430_1 hx430_2 hHeld ⊢
        refine pure_ (i := 0) (N := some 32) (v := ?_) (a' := ?_) #[true, false, false, false, false, false, false, false] rfl rfl (any_of HT_.out (by kernel_rfl)) (fun _ _ _ h => h) (Or.inl ⟨by rfl, ?_⟩) ?_ ?_
        rotate_left
        ·intro w'
         go_simp
         with_reducible rfl
        rotate_left
        ·refine qp ?_
         rfl
        refine pure_ (i := 1) (N := some 33) (v := ?_) (a' := ?_) #[true, true, false, false, false, false, false, false] rfl rfl (any_of HT_.out (by kernel_rfl)) (fun _ _ _ h => h) (Or.inl ⟨by rfl, ?_⟩) ?_ ?_
        rotate_left
        ·intro w'
         go_simp
         with_reducible rfl
        rotate_left
        ·refine qp ?_
         rfl
        refine pure_ (i := 2) (N := some 34) (v := ?_) (a' := ?_) #[true, true, true, false, false, false, false, false] rfl rfl (any_of HT_.out (by kernel_rfl)) (fun _ _ _ h => h) (Or.inl ⟨by rfl, ?_⟩) ?_ ?_
        rotate_left
        ·intro w'
         go_simp
         with_reducible rfl
        rotate_left
        ·refine qp ?_
         rfl
        refine pure_ (i := 3) (N := some 35) (v := ?_) (a' := ?_) #[true, true, true, true, false, false, false, false] rfl rfl (any_of HT_.out (by kernel_rfl)) (fun _ _ _ h => h) (Or.inl ⟨by rfl, ?_⟩) ?_ ?_
        rotate_left
        ·intro w'
         go_simp
         with_reducible rfl
        rotate_left
        ·refine qp ?_
         rfl
        refine pure_ (i := 5) (N := some 37) (v := ?_) (a' := ?_) #[true, true, true, true, false, true, false, false] rfl rfl (any_of HT_.out (by kernel_rfl)) (fun _ _ _ h => h) (Or.inl ⟨by rfl, ?_⟩) ?_ ?_
        rotate_left
        ·intro w'
         go_simp
         with_reducible rfl
        rotate_left
        ·refine qp ?_
         rfl
        refine take_ (i := 4) (N := some 36) (v := ?_) (a' := ?_) #[true, true, true, true, true, true, false, false] rfl rfl (take_ofW HT_.out HW_.out (by kernel_rfl)) (fun _ _ _ h => h) (Or.inl ⟨by rfl, ?_⟩) hHeld ?_ ?_
        rotate_left
        ·rintro w' ⟨s0, s1, s2⟩
         go_simp
         with_reducible rfl
        rotate_left
        ·refine qp ?_
         rfl
        refine one_ (i := 6) (N := some 38) #[true, true, true, true, true, true, true, false] rfl rfl (one_of HT_.out (by kernel_rfl)) (by decide) (fun K hK => ?_)
        refine goes_ Try.func134 (by kernel_rfl) rfl #[.int .i64 t429] (by rfl) rfl rfl qm ?_
        with_reducible refine (laws_markText.calls k1 t429 t431 _ A9.out).mono ?_
        rintro e w13 ⟨rfl, hb⟩; refine ⟨_, rfl, ?_⟩; replace HB := vbs HB hb; clear hb
        refine hK.out _ _ ⟨(qc HB.out hw430_0), (qc HB.out hw430_1), (qc HB.out hw430_2)⟩ (fun hHeld => ?_)
        clear hK K; refine norm_ (a' := ?_) ?_ ?_; rotate_left
        ·show Act.put _ (some 38) _ = _
         refine qp ?_
         rfl
        refine pure_ (i := 7) (N := some 39) (v := ?_) (a' := ?_) #[true, true, true, true, true, true, true, true] rfl rfl (any_of HT_.out (by kernel_rfl)) (fun _ _ _ h => h) (Or.inl ⟨by rfl, ?_⟩) ?_ ?_
        rotate_left
        ·intro w'
         go_simp
         with_reducible rfl
        rotate_left
        ·refine qp ?_
         rfl
        refine done_ (done_of HT_.out (by kernel_rfl)) ?_
        try go_wp2
        go_roundg k1
        case measure => have := HK1.out; omega
        case rel => exact ⟨(wrap64 (t429 + 1)), (wrap64 (x5_1 + 1)), qz, qz, H', ⟨by have := HK1.out; omega⟩, ⟨qb HB.out⟩⟩
       ·rw [if_neg c10] at H
        have c10b0 : (((rd_T59 l0 x5_1).f2).toList == t431.toList) = false := beq_eq_false_iff_ne.mpr c10; have c10b1 : (((rd_T59 l0 x5_1).f2).toList != t431.toList) = true := bne_iff_ne.mpr c10; obtain rfl := Option.some.inj H; have p427 : 0 ≤ (x5_1 : Int) := qo; have q427 : x5_1 < (l0.length : Int) := qo; obtain ⟨ad427, A427_1, c427_1, e427, hx427_0, hx427_1, hx427_2, hl427_1, hi427_1⟩ := at_T59 HR0.out x5_1 p427 q427
        cases e427
        replace hx427_0 := qc HB.out hx427_0; replace hx427_1 := qc HB.out hx427_1; replace hx427_2 := qc HB.out hx427_2; have HR427_1 := vA hi427_1; have HC427_1 := vA hl427_1; clear hi427_1 hl427_1; replace p427 := eq_true p427; replace q427 := eq_true q427; have p428 : 0 ≤ (x5_1 : Int) := qo; have q428 : x5_1 < (l0.length : Int) := qo; obtain ⟨ad428, A428_1, c428_1, e428, hx428_0, hx428_1, hx428_2, hl428_1, hi428_1⟩ := at_T59 HR0.out x5_1 p428 q428
        obtain rfl : ad427 = ad428 := (by injection e428)
        replace hx428_0 := qc HB.out hx428_0; replace hx428_1 := qc HB.out hx428_1; replace hx428_2 := qc HB.out hx428_2; have HR428_1 := vA hi428_1; have HC428_1 := vA hl428_1; clear hi428_1 hl428_1; replace p428 := eq_true p428; replace q428 := eq_true q428; have ea_ := Option.some.inj (hx427_1.symm.trans hx428_1); injection ea_ with ea_ en_ ec_; subst ea_; subst ec_; clear en_
        try go_wp2_with (first | ((with_reducible refine gate_callee (f := 107) rfl ?_); refine goesL_ (some 29) rfl rfl Try.func107 (by kernel_rfl) rfl #[.slice A427_1 ((rd_T59 l0 x5_1).f1).length c427_1, .int .i64 (wrap64 (x1_1 + 1))] rfl qm ?_; (with_reducible refine (laws_heldSlotS.calls k1 _ _ ((rd_T59 l0 x5_1).f1) (wrap64 (x1_1 + 1)) t429 _ (vc HR428_1 HB) HC428_1.out A6.out).mono ?_); rintro e w14 ⟨rfl, hb⟩; refine ⟨_, rfl, ?_⟩; replace HB := vbs HB hb; clear hb))
        replace HB := vA (below_drew1 HB.out); have p430 : 0 ≤ (x5_1 : Int) := qo; have q430 : x5_1 < (l0.length : Int) := qo; obtain ⟨ad430, A430_1, c430_1, e430, hx430_0, hx430_1, hx430_2, hl430_1, hi430_1⟩ := at_T59 HR0.out x5_1 p430 q430; have hw430_2 := hx430_2; have hw430_1 := hx430_1; have hw430_0 := hx430_0
        obtain rfl : ad427 = ad430 := (by injection e430)
        replace hx430_0 := qc HB.out hx430_0; replace hx430_1 := qc HB.out hx430_1; replace hx430_2 := qc HB.out hx430_2; have HR430_1 := vA hi430_1; have HC430_1 := vA hl430_1; clear hi430_1 hl430_1; replace p430 := eq_true p430; replace q430 := eq_true q430
        refine start_ (n := 8) (S := fun w' => w'.cell? (ad427.add ((x5_1).toNat * 3)) = some (.bool ((rd_T59 l0 x5_1).f0)) ∧ w'.cell? ⟨(ad427.add ((x5_1).toNat * 3)).block, (ad427.add ((x5_1).toNat * 3)).off + 1, none⟩ = some (.slice A430_1 ((rd_T59 l0 x5_1).f1).length c430_1) ∧ w'.cell? ⟨(ad427.add ((x5_1).toNat * 3)).block, (ad427.add ((x5_1).toNat * 3)).off + 2, none⟩ = some (.string ((rd_T59 l0 x5_1).f2))) (ds := []) #[false, false, false, false, false, false, false, false] (by kernel_rfl) rfl rfl ⟨(qc HB.out hw430_0), (qc HB.out hw430_1), (qc HB.out hw430_2)⟩ (fun hHeld => ?_); refine with_tabW laws_heldBlockS.tab10 laws_heldBlockS.bits10 (fun HT_ HW_ => ?_)
        generalize w14.drew = w15 at HB HR430_1 hx430_0 hx430_1 hx430_2 hHeld ⊢
        refine pure_ (i := 0) (N := some 32) (v := ?_) (a' := ?_) #[true, false, false, false, false, false, false, false] rfl rfl (any_of HT_.out (by kernel_rfl)) (fun _ _ _ h => h) (Or.inl ⟨by rfl, ?_⟩) ?_ ?_
        rotate_left
        ·intro w'
         go_simp
         with_reducible rfl
        rotate_left
        ·refine qp ?_
         rfl
        refine pure_ (i := 1) (N := some 33) (v := ?_) (a' := ?_) #[true, true, false, false, false, false, false, false] rfl rfl (any_of HT_.out (by kernel_rfl)) (fun _ _ _ h => h) (Or.inl ⟨by rfl, ?_⟩) ?_ ?_
        rotate_left
        ·intro w'
         go_simp
         with_reducible rfl
        rotate_left
        ·refine qp ?_
         rfl
        refine pure_ (i := 2) (N := some 34) (v := ?_) (a' := ?_) #[true, true, true, false, false, false, false, false] rfl rfl (any_of HT_.out (by kernel_rfl)) (fun _ _ _ h => h) (Or.inl ⟨by rfl, ?_⟩) ?_ ?_
        rotate_left
        ·intro w'
         go_simp
         with_reducible rfl
        rotate_left
        ·refine qp ?_
         rfl
        refine pure_ (i := 3) (N := some 35) (v := ?_) (a' := ?_) #[true, true, true, true, false, false, false, false] rfl rfl (any_of HT_.out (by kernel_rfl)) (fun _ _ _ h => h) (Or.inl ⟨by rfl, ?_⟩) ?_ ?_
        rotate_left
        ·intro w'
         go_simp
         with_reducible rfl
        rotate_left
        ·refine qp ?_
         rfl
        refine pure_ (i := 5) (N := some 37) (v := ?_) (a' := ?_) #[true, true, true, true, false, true, false, false] rfl rfl (any_of HT_.out (by kernel_rfl)) (fun _ _ _ h => h) (Or.inl ⟨by rfl, ?_⟩) ?_ ?_
        rotate_left
        ·intro w'
         go_simp
         with_reducible rfl
        rotate_left
        ·refine qp ?_
         rfl
        refine take_ (i := 4) (N := some 36) (v := ?_) (a' := ?_) #[true, true, true, true, true, true, false, false] rfl rfl (take_ofW HT_.out HW_.out (by kernel_rfl)) (fun _ _ _ h => h) (Or.inl ⟨by rfl, ?_⟩) hHeld ?_ ?_
        rotate_left
        ·rintro w' ⟨s0, s1, s2⟩
         go_simp
         with_reducible rfl
        rotate_left
        ·refine qp ?_
         rfl
        refine one_ (i := 6) (N := some 38) #[true, true, true, true, true, true, true, false] rfl rfl (one_of HT_.out (by kernel_rfl)) (by decide) (fun K hK => ?_)
        refine goes_ Try.func134 (by kernel_rfl) rfl #[.int .i64 t429] (by rfl) rfl rfl qm ?_
        with_reducible refine (laws_markText.calls k1 t429 t431 _ A9.out).mono ?_
        rintro e w16 ⟨rfl, hb⟩; refine ⟨_, rfl, ?_⟩; replace HB := vbs HB hb; clear hb
        refine hK.out _ _ ⟨(qc HB.out hw430_0), (qc HB.out hw430_1), (qc HB.out hw430_2)⟩ (fun hHeld => ?_)
        clear hK K; refine norm_ (a' := ?_) ?_ ?_; rotate_left
        ·show Act.put _ (some 38) _ = _
         refine qp ?_
         rfl
        refine pure_ (i := 7) (N := some 39) (v := ?_) (a' := ?_) #[true, true, true, true, true, true, true, true] rfl rfl (any_of HT_.out (by kernel_rfl)) (fun _ _ _ h => h) (Or.inl ⟨by rfl, ?_⟩) ?_ ?_
        rotate_left
        ·intro w'
         go_simp
         with_reducible rfl
        rotate_left
        ·refine qp ?_
         rfl
        refine done_ (done_of HT_.out (by kernel_rfl)) ?_
        try go_wp2
        go_ret
        exact ⟨qe, qb HB.out⟩
    ·rw [if_neg c4] at H
     exact absurd H (by simp)
   ·rw [if_neg c3] at H
    have c3b0 : decide (x5_1 < (l0.length : Int)) = false := decide_eq_false c3; clear c3; obtain rfl := Option.some.inj H
    go_wp2
    go_ret
    exact ⟨qe, qb HB.out⟩

end Go.Proofs.Ytdnbpapolckklaa.PFnExactDiskOf
