-- Written by a program of this session (a changed copy of the kit's print: wip/print2). Lean checks it.
import Derived.Test.YtdnbpapolckklaaPax
import Derived.Test.YtdnbpapolckklaaPFnExactDiskOfx0
import Derived.Test.YtdnbpapolckklaaPFnExactDiskOfx16
import Derived.Test.YtdnbpapolckklaaPFnExactDiskOfx18
namespace Go.Proofs.Ytdnbpapolckklaa.PFnExactDiskOf
open Go.RowKit Go.Proofs.YtdnbpapolckklaaW.PrintWords Go.Proofs.YtdnbpapolckklaaW.PrintLast Go.Proofs.YtdnbpapolckklaaW.PrintMore
attribute [local go_sem] max2_int min2_int max_two min_two max_three min_three max_four min_four   -- for this text's walks alone
attribute [local go_sem] Go.Proofs.Ytdnbpapolckklaa.Pad.isSome_setCell
set_option linter.unusedVariables false
set_option linter.unusedSimpArgs false

/-! ### impl_ReadBits: function 81 -/
def impl_ReadBits.f (k : Nat) (a0 : ByteArray) : Option (List Bool × List Bool × Bool) := if (a0.size : Int) = 3 then (if 0 < (a0.size : Int) then ((impl_unpacked.f k (bt a0 0)).bind fun t372 => (if 1 < (a0.size : Int) then ((impl_unpacked.f k (bt a0 1)).bind fun t375 => (if t372.length + t375.length < 140737488355328 then (if 2 < (a0.size : Int) then ((impl_unpacked.f k (bt a0 2)).bind fun t381 => (some ((t372 ++ t375), t381, true))) else (none)) else (none))) else (none))) else (none)) else (some (([] : List Bool), ([] : List Bool), false))
def impl_ReadBits.T3 : Bool × List (List Nat × List Nat) := (true, [([], []), ([0], [0]), ([1], [1]), ([], []), ([3], [3]), ([4, 2], [4]), ([2, 5, 5], [2, 5]), ([], []), ([7], [7]), ([8, 6], [8]), ([6, 9], [6, 9]), ([10, 9, 0, 1, 2, 3, 4, 5, 6, 7, 8, 9, 10], [10]), ([11, 0, 1, 2, 3, 4, 5, 6, 7, 8, 9, 10, 11], [])])
def impl_ReadBits.B3 : List Nat := [0, 1, 3, 0, 8, 31, 63, 0, 128, 511, 1023, 2047, 4095]
theorem impl_ReadBits.tab3 : rtab .any (opsOf Try.f81 3) = impl_ReadBits.T3 := by kernel_rfl
theorem impl_ReadBits.bits3 : waitsOk impl_ReadBits.T3.2 impl_ReadBits.B3 = true := by kernel_rfl
set_option maxHeartbeats 8000000 in
set_option maxRecDepth 100000 in
theorem impl_ReadBits.calls (k : Nat) (a0 : ByteArray) (r1 : List Bool) (r2 : List Bool) (r3 : Bool) (w : World) (h : impl_ReadBits.f k a0 = some (r1, r2, r3)) :
  Calls Try.prog 81 #[.string a0] w fun e w' => ∃ v0_ v1_ : Value, e = .returned (.tuple #[.agg #[v0_, v1_], .bool r3]) ∧ Kd.R Kd.bool 4 w' w.heap.size (fun k_ => some k_ ≠ (v1_ : Value).ownBlock) v0_ r1 ∧ Kd.R Kd.bool 4 w' w.heap.size (fun k_ => some k_ ≠ (v0_ : Value).ownBlock) v1_ r2 ∧ Below w.heap.size w w' := by
 have hu35 := Try.underlying35
 have HB := vA (Below.refl w.heap.size w)
 have H : (if (a0.size : Int) = 3 then (if 0 < (a0.size : Int) then ((impl_unpacked.f k (bt a0 0)).bind fun t372 => (if 1 < (a0.size : Int) then ((impl_unpacked.f k (bt a0 1)).bind fun t375 => (if t372.length + t375.length < 140737488355328 then (if 2 < (a0.size : Int) then ((impl_unpacked.f k (bt a0 2)).bind fun t381 => (some ((t372 ++ t375), t381, true))) else (none)) else (none))) else (none))) else (none)) else (some (([] : List Bool), ([] : List Bool), false))) = some (r1, r2, r3) := h
 clear h
 by_cases c2 : (a0.size : Int) = 3
 ·rw [if_pos c2] at H
  have c2b0 : ((a0.size : Int) == 3) = true := beq_iff_eq.mpr c2; have c2b1 : ((a0.size : Int) != 3) = false := bne_eq_false_iff_eq.mpr c2; clear c2
  by_cases c3 : 0 < (a0.size : Int)
  ·rw [if_pos c3] at H
   have c3b0 : decide (0 < (a0.size : Int)) = true := decide_eq_true c3
   have c3b1 : decide (0 < a0.size) = true := decide_eq_true (by omega)
   clear c3; replace H := Option.bind_eq_some_iff.mp H; obtain ⟨t372, A50, H⟩ := H; have A5 := vA A50; clear A50
   by_cases c6 : 1 < (a0.size : Int)
   ·rw [if_pos c6] at H
    have c6b0 : decide (1 < (a0.size : Int)) = true := decide_eq_true c6
    have c6b1 : decide (1 < a0.size) = true := decide_eq_true (by omega)
    clear c6; replace H := Option.bind_eq_some_iff.mp H; obtain ⟨t375, A80, H⟩ := H; have A8 := vA A80; clear A80
    by_cases c9 : t372.length + t375.length < 140737488355328
    ·rw [if_pos c9] at H
     have LMc9 := vA c9; clear c9; obtain ⟨y378, hy378⟩ : ∃ y_ : List Bool, y_ = (t372 ++ t375) := ⟨_, rfl⟩
     first | rw [Option.bind_some, ← hy378] at H | rw [← hy378] at H
     have Ny378 := vA hy378; clear hy378
     by_cases c10 : 2 < (a0.size : Int)
     ·rw [if_pos c10] at H
      have c10b0 : decide (2 < (a0.size : Int)) = true := decide_eq_true c10
      have c10b1 : decide (2 < a0.size) = true := decide_eq_true (by omega)
      clear c10; replace H := Option.bind_eq_some_iff.mp H; obtain ⟨t381, A120, H⟩ := H; have A12 := vA A120; clear A120
      simp only [Option.some.injEq, Prod.mk.injEq] at H
      obtain ⟨rfl, rfl, rfl⟩ := H
      go_enter Try.func81, Try.ntmps81
      try go_wp2_with (first | ((with_reducible refine gate_dst (N := 2) rfl ?_); refine vx (N := 2) (cs := #[.slice none 0 0, .slice none 0 0]) (t := 35) ?_; intro gb371 hg w13 hbox hb; have BK371 := vA (hbox); have GW371 := vA ((vg hg (qb HB.out))); have GE371 := GW371; replace HB := vbs HB hb; clear hb hbox hg))
      replace BK371 := vA (blk_drew BK371.out); replace HB := vA (below_drew1 HB.out)
      have p4 : 0 ≤ (0 : Int) := (by omega)
      have q4 : 0 < a0.size := (by have : (0 : Int) < (a0.size : Int) := qo; omega)
      have hx4 : ∀ h : 0 < a0.size, ((a0[0]'h).toNat : Int) = bt a0 0 := bt_at a0 0; clear p4; have qi4 : (0 < (a0.size : Int)) = True := eq_true qo; replace q4 := eq_true q4
      have p7 : 0 ≤ (1 : Int) := (by omega)
      have q7 : 1 < a0.size := (by have : (1 : Int) < (a0.size : Int) := qo; omega)
      have hx7 : ∀ h : 1 < a0.size, ((a0[1]'h).toNat : Int) = bt a0 1 := bt_at a0 1; clear p7; have qi7 : (1 < (a0.size : Int)) = True := eq_true qo; replace q7 := eq_true q7
      have p11 : 0 ≤ (2 : Int) := (by omega)
      have q11 : 2 < a0.size := (by have : (2 : Int) < (a0.size : Int) := qo; omega)
      have hx11 : ∀ h : 2 < a0.size, ((a0[2]'h).toNat : Int) = bt a0 2 := bt_at a0 2; clear p11; have qi11 : (2 < (a0.size : Int)) = True := eq_true qo; replace q11 := eq_true q11
      refine start_ (n := 13) (S := fun w' => True) (ds := []) #[false, false, false, false, false, false, false, false, false, false, false, false, false] (by kernel_rfl) rfl rfl trivial (fun hHeld => ?_); refine with_tabW impl_ReadBits.tab3 impl_ReadBits.bits3 (fun HT_ HW_ => ?_)
      generalize w13.drew = w14 at BK371 HB hHeld ⊢
      refine pure_ (i := 0) (N := some 8) (v := ?_) (a' := ?_) #[true, false, false, false, false, false, false, false, false, false, false, false, false] rfl rfl (any_of HT_.out (by kernel_rfl)) (fun _ _ _ h => h) (Or.inl ⟨by rfl, ?_⟩) ?_ ?_
      rotate_left
      ·intro w'
       go_simp
       with_reducible rfl
      rotate_left
      ·refine qp ?_
       rfl
      refine pure_ (i := 3) (N := some 11) (v := ?_) (a' := ?_) #[true, false, false, true, false, false, false, false, false, false, false, false, false] rfl rfl (any_of HT_.out (by kernel_rfl)) (fun _ _ _ h => h) (Or.inl ⟨by rfl, ?_⟩) ?_ ?_
      rotate_left
      ·intro w'
       go_simp
       with_reducible rfl
      rotate_left
      ·refine qp ?_
       rfl
      refine pure_ (i := 7) (N := some 15) (v := ?_) (a' := ?_) #[true, false, false, true, false, false, false, true, false, false, false, false, false] rfl rfl (any_of HT_.out (by kernel_rfl)) (fun _ _ _ h => h) (Or.inl ⟨by rfl, ?_⟩) ?_ ?_
      rotate_left
      ·intro w'
       go_simp
       with_reducible rfl
      rotate_left
      ·refine qp ?_
       rfl
      refine take_ (i := 1) (N := some 9) (v := ?_) (a' := ?_) #[true, true, false, true, false, false, false, true, false, false, false, false, false] rfl rfl (take_ofW HT_.out HW_.out (by kernel_rfl)) (fun _ _ _ h => h) (Or.inl ⟨by rfl, ?_⟩) hHeld ?_ ?_
      rotate_left
      ·intro w' _
       go_simp
       with_reducible rfl
      rotate_left
      ·refine qp ?_
       rfl
      refine take_ (i := 4) (N := some 12) (v := ?_) (a' := ?_) #[true, true, false, true, true, false, false, true, false, false, false, false, false] rfl rfl (take_ofW HT_.out HW_.out (by kernel_rfl)) (fun _ _ _ h => h) (Or.inl ⟨by rfl, ?_⟩) hHeld ?_ ?_
      rotate_left
      ·intro w' _
       go_simp
       with_reducible rfl
      rotate_left
      ·refine qp ?_
       rfl
      refine take_ (i := 8) (N := some 16) (v := ?_) (a' := ?_) #[true, true, false, true, true, false, false, true, true, false, false, false, false] rfl rfl (take_ofW HT_.out HW_.out (by kernel_rfl)) (fun _ _ _ h => h) (Or.inl ⟨by rfl, ?_⟩) hHeld ?_ ?_
      rotate_left
      ·intro w' _
       go_simp
       with_reducible rfl
      rotate_left
      ·refine qp ?_
       rfl
      refine one_ (i := 2) (N := some 10) #[true, true, true, true, true, false, false, true, true, false, false, false, false] rfl rfl (one_of HT_.out (by kernel_rfl)) (by decide) (fun K hK => ?_)
      refine goes_ Try.func135 (by kernel_rfl) rfl #[.int .u8 (bt a0 0)] (by rfl) rfl rfl qm ?_
      with_reducible refine (impl_unpacked.calls k (bt a0 0) t372 _ A5.out).mono ?_
      rintro e w15 ⟨v373, rfl, ho0, hb⟩; refine ⟨_, rfl, ?_⟩; have HO374 := vA (Kd.R_lower ho0 (below_size (vh HB))); replace BK371 := vw BK371 hb; replace HB := vbs HB hb; clear hb ho0
      refine hK.out _ _ trivial (fun hHeld => ?_)
      clear hK K; refine norm_ (a' := ?_) ?_ ?_; rotate_left
      ·show Act.put _ (some 10) _ = _
       refine qp ?_
       rfl
      refine one_ (i := 5) (N := some 13) #[true, true, true, true, true, true, false, true, true, false, false, false, false] rfl rfl (one_of HT_.out (by kernel_rfl)) (by decide) (fun K hK => ?_)
      refine goes_ Try.func135 (by kernel_rfl) rfl #[.int .u8 (bt a0 1)] (by rfl) rfl rfl qm ?_
      with_reducible refine (impl_unpacked.calls k (bt a0 1) t375 _ A8.out).mono ?_
      rintro e w16 ⟨v376, rfl, ho0, hb⟩; refine ⟨_, rfl, ?_⟩; have HO377 := vA (Kd.R_lower (Kd.R_new' ho0 (Kd.R_lt (qr HO374.out))) (below_size (vh HB))); replace HO374 := vA (Kd.R_elder' (qr HO374.out) (Kd.R_base ho0) hb); replace BK371 := vw BK371 hb; replace HB := vbs HB hb; clear hb ho0; obtain ⟨Ao18, co18, eo18⟩ := Kd.R_slice HO377.out
      (first | subst eo18 | (injection eo18 with f1_ f2_ f3_; have f4_ := f1_.symm; have f5_ := f3_.symm; clear f1_ f2_ f3_; subst f4_; subst f5_))
      refine hK.out _ _ trivial (fun hHeld => ?_)
      clear hK K; refine norm_ (a' := ?_) ?_ ?_; rotate_left
      ·show Act.put _ (some 13) _ = _
       refine qp ?_
       rfl
      refine one_ (i := 6) (N := some 14) #[true, true, true, true, true, true, true, true, true, false, false, false, false] rfl rfl (one_of HT_.out (by kernel_rfl)) (by decide) (fun K hK => ?_)
      refine Kd.R_append_rows_step Kd.bool (w0 := w) w.heap.size (by rfl) (.tmp 10) (.tmp 13) 22 4 (.bool false) 1 rfl Try.underlying22 info4 rfl (by decide) (by omega) v373 t372 t375 _ _ _ (fun k_ => some k_ ≠ (.slice Ao18 t375.length co18 : Value).ownBlock) (fun _ => False) rfl rfl ?aO ?aR (fun _ _ h => h) (fun _ h => h.elim) ?aF ?aB ?aS ?aL ?_
      (case aR => repeat (first | exact (Kd.R_reads' HO377.out).2.2 | (with_reducible refine Kd.C_alloc ?_ _) | (with_reducible refine Kd.C_drewN ?_ _) | (with_reducible refine Kd.C_drew ?_)))
      (case aB => exact (vh HB))
      (case aF => exact (fun k_ hk => Kd.fresh' (Kd.R_lt (qr HO377.out)) k_ hk))
      (case aO => exact (by refine qR ?_; exact Kd.R_mono HO374.out (fun _ hk => hk.2)))
      (case aS => exact (below_size (vh HB)))
      (case aL => have := LMc9.out; omega)
      intro v379 w17 ho hb hg hat
      rw [← Ny378.out] at ho
      replace BK371 := vG BK371 hg (Kd.R_ne HO374.out BK371.out (by decide))
      replace HO377 := vA (Kd.R_after (ok := (fun _ => True)) (qr HO377.out) hg hat)
      replace HB := vA (hb); have HO380 := vA (ho); clear HO374 ho hb hg hat
      refine hK.out _ _ trivial (fun hHeld => ?_)
      clear hK K; refine norm_ (a' := ?_) ?_ ?_; rotate_left
      ·show Act.put _ (some 14) _ = _
       refine qp ?_
       rfl
      refine one_ (i := 9) (N := some 17) #[true, true, true, true, true, true, true, true, true, true, false, false, false] rfl rfl (one_of HT_.out (by kernel_rfl)) (by decide) (fun K hK => ?_)
      refine goes_ Try.func135 (by kernel_rfl) rfl #[.int .u8 (bt a0 2)] (by rfl) rfl rfl qm ?_
      with_reducible refine (impl_unpacked.calls k (bt a0 2) t381 _ A12.out).mono ?_
      rintro e w19 ⟨v382, rfl, ho0, hb⟩; refine ⟨_, rfl, ?_⟩; have HO383 := vA (Kd.R_lower (Kd.R_new' (Kd.R_new' ho0 (Kd.R_lt (qr HO377.out))) (Kd.R_lt (qr HO380.out))) (below_size (vh HB))); replace HO377 := vA (Kd.R_elder' (qr HO377.out) (Kd.R_base ho0) hb); replace HO380 := vA (Kd.R_elder' (qr HO380.out) (Kd.R_base ho0) hb); replace BK371 := vw BK371 hb; replace HB := vbs HB hb; clear hb ho0; obtain ⟨Ao20, co20, eo20⟩ := Kd.R_slice HO383.out
      (first | subst eo20 | (injection eo20 with f1_ f2_ f3_; have f4_ := f1_.symm; have f5_ := f3_.symm; clear f1_ f2_ f3_; subst f4_; subst f5_))
      obtain ⟨Ao21, co21, eo21⟩ := Kd.R_slice HO380.out
      (first | subst eo21 | (injection eo21 with f1_ f2_ f3_; have f4_ := f1_.symm; have f5_ := f3_.symm; clear f1_ f2_ f3_; subst f4_; subst f5_))
      refine hK.out _ _ trivial (fun hHeld => ?_)
      clear hK K; refine norm_ (a' := ?_) ?_ ?_; rotate_left
      ·show Act.put _ (some 17) _ = _
       refine qp ?_
       rfl
      refine pure_ (i := 10) (N := some 18) (v := ?_) (a' := ?_) #[true, true, true, true, true, true, true, true, true, true, true, false, false] rfl rfl (any_of HT_.out (by kernel_rfl)) (fun _ _ _ h => h) (Or.inl ⟨by rfl, ?_⟩) ?_ ?_
      rotate_left
      ·intro w'
       go_simp
       with_reducible rfl
      rotate_left
      ·refine qp ?_
       rfl
      refine one_ (i := 11) (N := none) #[true, true, true, true, true, true, true, true, true, true, true, true, false] rfl rfl (one_of HT_.out (by kernel_rfl)) (by decide) (fun K hK => ?_)
      have hs22 : w19.cell? ⟨gb371, 0, none⟩ = some (.slice none 0 0) := (blk_cell BK371.out 0).trans rfl; have hfs22 := blk_frozen BK371.out 0; have hs23 : w19.cell? ⟨gb371, 1, none⟩ = some (.slice none 0 0) := (blk_cell BK371.out 1).trans rfl; have hfs23 := blk_frozen BK371.out 1
      refine skip_ (w1 := ?_) (by rfl) rfl ?_ ?_
      rotate_left
      ·go_simp
       rfl
      refine hK.out _ _ trivial (fun hHeld => ?_)
      clear hK K
      refine pure_ (i := 12) (N := some 3) (v := ?_) (a' := ?_) #[true, true, true, true, true, true, true, true, true, true, true, true, true] rfl rfl (any_of HT_.out (by kernel_rfl)) (fun _ _ _ h => h) (Or.inl ⟨by rfl, ?_⟩) ?_ ?_
      rotate_left
      ·intro w'
       go_simp
       with_reducible rfl
      rotate_left
      ·refine qp ?_
       rfl
      refine done_ (done_of HT_.out (by kernel_rfl)) ?_
      try go_wp2
      refine bodyPost_ret (results_ct rfl _ _ gb371 35 #[.slice Ao21 y378.length co21, .slice Ao20 t381.length co20] (0, 0) _ rfl (blk_put (blk_put BK371.out 0 _ rfl) 1 _ rfl) Try.underlying35 rfl (by kernel_rfl)) rfl ?_
      exact ⟨_, _, qe, by refine qR ?_; exact Kd.R_mono (Kd.R_far (p := ⟨gb371, 1, none⟩) (Kd.R_far (p := ⟨gb371, 0, none⟩) (Kd.R_types HO380.out BK371.out (by decide)) (fun _ hk => hk.2) (.slice Ao21 y378.length co21)) (fun _ hk => hk.2) (.slice Ao20 t381.length co20)) (fun _ hk => hk.1.2), by refine qR ?_; exact Kd.R_mono (Kd.R_far (p := ⟨gb371, 1, none⟩) (Kd.R_far (p := ⟨gb371, 0, none⟩) (Kd.R_types HO383.out BK371.out (by decide)) (fun _ hk => hk.2) (.slice Ao21 y378.length co21)) (fun _ hk => hk.2) (.slice Ao20 t381.length co20)) (fun _ hk => hk.1.2), qb1 HB.out GE371.out⟩
     ·rw [if_neg c10] at H
      exact absurd H (by simp)
    ·rw [if_neg c9] at H
     exact absurd H (by simp)
   ·rw [if_neg c6] at H
    exact absurd H (by simp)
  ·rw [if_neg c3] at H
   exact absurd H (by simp)
 ·rw [if_neg c2] at H
  have c2b0 : ((a0.size : Int) == 3) = false := beq_eq_false_iff_ne.mpr c2; have c2b1 : ((a0.size : Int) != 3) = true := bne_iff_ne.mpr c2
  simp only [Option.some.injEq, Prod.mk.injEq] at H
  obtain ⟨rfl, rfl, rfl⟩ := H
  go_enter Try.func81, Try.ntmps81
  go_wp2_with (first | ((with_reducible refine gate_dst (N := 2) rfl ?_); refine vx (N := 2) (cs := #[.slice none 0 0, .slice none 0 0]) (t := 35) ?_; intro gb371 hg w24 hbox hb; have BK371 := vA (hbox); have GW371 := vA ((vg hg (qb HB.out))); have GE371 := GW371; replace HB := vbs HB hb; clear hb hbox hg; obtain ⟨hcz25_0, hcz25_1⟩ := v2c BK371.out; obtain ⟨hfz25_0, hfz25_1⟩ := v2f BK371.out))
  refine bodyPost_ret (results_ct rfl _ _ gb371 35 #[.slice none 0 0, .slice none 0 0] (0, 0) _ rfl (blk_put (blk_put BK371.out 0 _ rfl) 1 _ rfl) Try.underlying35 rfl (by kernel_rfl)) rfl ?_
  exact ⟨_, _, qe, by first | exact Kd.R_nil _ _ _ _ _ | exact Kd.N_nil _ _ _ _ _ | exact Kd.V_nil _ _ _ _ _ | exact Kd.Q_nil _ _ _ _ _ | exact Kd.S_nil _ _ _ _ _, by first | exact Kd.R_nil _ _ _ _ _ | exact Kd.N_nil _ _ _ _ _ | exact Kd.V_nil _ _ _ _ _ | exact Kd.Q_nil _ _ _ _ _ | exact Kd.S_nil _ _ _ _ _, qb1 HB.out GE371.out⟩

/-! ### impl_InodeOk: function 119 -/
def impl_InodeOk.l0 : Nat → List Int → Int → Int → Int → Int → List Int → Option (Bool)
 | 0, _, _, _, _, _, _ => none
 | k + 1, x6, x7, x8, x385000, x385001, x385002 => if x8 < x7 then (if 0 ≤ x8 then (if x8 < (x6.length : Int) then ((impl_within.f (rd x6 x8) 0 16).bind fun t388 => (if t388 = true then (if (rd x6 x8) = 0 then (impl_InodeOk.l0 k x6 x7 (wrap64 (x8 + 1)) x385000 x385001 x385002) else (if x385000 = 0 then (some false) else (impl_InodeOk.l0 k x6 x7 (wrap64 (x8 + 1)) x385000 x385001 x385002))) else (some false))) else (none)) else (none)) else ((impl_within.f x385000 0 2).bind fun t385 => (if t385 = true then ((impl_within.f x385001 0 200).bind fun t386 => (if t386 = true then (if (x385002.length : Int) = 2 then (if x385000 = 0 then (some (x385001 == 0)) else (some true)) else (some false)) else (some false))) else (some false)))
def impl_InodeOk.f (k : Nat) (a0_0 : Int) (a0_1 : Int) (l0_2 : List Int) : Option (Bool) := impl_InodeOk.l0 k l0_2 (l0_2.length : Int) 0 a0_0 a0_1 l0_2
set_option maxHeartbeats 8000000 in
set_option maxRecDepth 100000 in
theorem impl_InodeOk.calls (k : Nat) (a0_0 : Int) (a0_1 : Int) (A0_2 : Option Addr) (c0_2 : Nat) (l0_2 : List Int) (r : Bool) (w : World) (hr0_2 : Kd.C (Kd.int .i64) w A0_2 l0_2.length l0_2) (hc0_2 : l0_2.length ≤ c0_2) (h : impl_InodeOk.f k a0_0 a0_1 l0_2 = some r) :
  Calls Try.prog 119 #[.agg #[.int .i64 a0_0, .int .i64 a0_1, .slice A0_2 l0_2.length c0_2]] w fun e w' => e = .returned (.bool r) ∧ Below w.heap.size w w' := by
 have hu105 := Try.underlying105
 have HR0_2 := vA hr0_2
 have HC0_2 := vA hc0_2
 clear hr0_2 hc0_2
 have HB := vA (Below.refl w.heap.size w)
 have H : (impl_InodeOk.l0 k l0_2 (l0_2.length : Int) 0 a0_0 a0_1 l0_2) = some r := h
 clear h
 have H' := vA H
 clear H
 go_enter Try.func119, Try.ntmps119
 go_wp2_with (first | ((with_reducible refine gate_dst (N := 1) rfl ?_); (try (refine gate_guard (by rfl) ?_; dsimp only)); refine vx (N := 1) (cs := #[.int .i64 a0_0, .int .i64 a0_1, .slice A0_2 l0_2.length c0_2]) (t := 105) ?_; intro gb384 hg w2 hbox hb; have BK384 := vA (hbox); have GW384 := vA ((vg hg (qb HB.out))); have GE384 := GW384; replace HB := vbs HB hb; clear hb hbox hg; obtain ⟨hcz3_0, hcz3_1, hcz3_2⟩ := v3c BK384.out; obtain ⟨hfz3_0, hfz3_1, hfz3_2⟩ := v3f BK384.out))
 go_loopg [8] k (fun kq v8 w' => ∃ (x8_1 : Int), v8 = .int .i64 x8_1 ∧ Aside0 (impl_InodeOk.l0 kq l0_2 (l0_2.length : Int) x8_1 a0_0 a0_1 l0_2 = some r) ∧ Aside0 (kq ≤ k) ∧ Aside0 (w'.heap[gb384]? = some (.cells #[.int .i64 a0_0, .int .i64 a0_1, (.slice A0_2 l0_2.length c0_2)] 105 (0, 0))) ∧ Aside0 (Below w.heap.size w w'))
 case atStart => exact ⟨(0), qz, H', ⟨Nat.le_refl _⟩, ⟨qk BK384.out⟩, ⟨qb1 HB.out GE384.out⟩⟩
 case round =>
  clear H'
  (try clear c1); (try clear p2); (try clear hcz3_0); (try clear hcz3_1); (try clear hcz3_2); (try clear hfz3_0); (try clear hfz3_1); (try clear hfz3_2)
  obtain ⟨x8_1, rfl, HA, HK1, BK384, HB⟩ := hrel
  cases gk with
  | zero => exact absurd HA.out (by simp [impl_InodeOk.l0])
  | succ k1 =>
   have H := HA.out; clear HA
   simp only [impl_InodeOk.l0] at H
   by_cases c4 : x8_1 < (l0_2.length : Int)
   ·rw [if_pos c4] at H
    have c4b0 : decide (x8_1 < (l0_2.length : Int)) = true := decide_eq_true c4; clear c4
    by_cases c5 : 0 ≤ x8_1
    ·rw [if_pos c5] at H
     have c5b0 : decide (0 ≤ x8_1) = true := decide_eq_true c5; clear c5
     by_cases c6 : x8_1 < (l0_2.length : Int)
     ·rw [if_pos c6] at H
      have c6b0 : decide (x8_1 < (l0_2.length : Int)) = true := decide_eq_true c6; clear c6; replace H := Option.bind_eq_some_iff.mp H; obtain ⟨t388, A70, H⟩ := H; have A7 := vA A70; clear A70; have p387 : 0 ≤ (x8_1 : Int) := qo; have q387 : x8_1 < (l0_2.length : Int) := qo; obtain ⟨ad387, e387, hx387_0⟩ := Kd.at_int HR0_2.out x8_1 p387 q387
      cases e387
      replace hx387_0 := qc HB.out hx387_0; replace p387 := eq_true p387; replace q387 := eq_true q387
      go_wp2_with (first | ((with_reducible refine gate_callee (f := 97) rfl ?_); refine goesL_ (some 13) rfl rfl Try.func97 (by kernel_rfl) rfl #[.int .i64 (rd l0_2 x8_1), .int .i64 0, .int .i64 16] rfl qm ?_; (with_reducible refine (impl_within.calls (rd l0_2 x8_1) 0 16 t388 _ A7.out).mono ?_)))
      first | rintro e w' rfl ⟨nd, rfl⟩ | rintro e w' ⟨rfl, ⟨nd, rfl⟩⟩
      refine ⟨_, rfl, ?_⟩
      by_cases c8 : t388 = true
      ·subst c8
       rw [if_pos rfl] at H
       by_cases c9 : (rd l0_2 x8_1) = 0
       ·rw [if_pos c9] at H
        have c9b0 : ((rd l0_2 x8_1) == 0) = true := beq_iff_eq.mpr c9; have c9b1 : ((rd l0_2 x8_1) != 0) = false := bne_eq_false_iff_eq.mpr c9; clear c9; have H' := vA H; clear H
        go_wp2
        go_roundg k1
        case measure => have := HK1.out; omega
        case rel => exact ⟨(wrap64 (x8_1 + 1)), qz, H', ⟨by have := HK1.out; omega⟩, ⟨qk BK384.out⟩, ⟨qb1 HB.out GE384.out⟩⟩
       ·rw [if_neg c9] at H
        have c9b0 : ((rd l0_2 x8_1) == 0) = false := beq_eq_false_iff_ne.mpr c9; have c9b1 : ((rd l0_2 x8_1) != 0) = true := bne_iff_ne.mpr c9
        by_cases c10 : a0_0 = 0
        ·rw [if_pos c10] at H
         have c10b0 : (a0_0 == 0) = true := beq_iff_eq.mpr c10; have c10b1 : (a0_0 != 0) = false := bne_eq_false_iff_eq.mpr c10; clear c10; obtain rfl := Option.some.inj H; obtain ⟨hcz11_0, hcz11_1, hcz11_2⟩ := v3c BK384.out; obtain ⟨hfz11_0, hfz11_1, hfz11_2⟩ := v3f BK384.out
         go_wp2
         go_ret
         exact ⟨qe, qb1 HB.out GE384.out⟩
        ·rw [if_neg c10] at H
         have c10b0 : (a0_0 == 0) = false := beq_eq_false_iff_ne.mpr c10; have c10b1 : (a0_0 != 0) = true := bne_iff_ne.mpr c10; have H' := vA H; clear H; obtain ⟨hcz12_0, hcz12_1, hcz12_2⟩ := v3c BK384.out; obtain ⟨hfz12_0, hfz12_1, hfz12_2⟩ := v3f BK384.out
         go_wp2
         go_roundg k1
         case measure => have := HK1.out; omega
         case rel => exact ⟨(wrap64 (x8_1 + 1)), qz, H', ⟨by have := HK1.out; omega⟩, ⟨qk BK384.out⟩, ⟨qb1 HB.out GE384.out⟩⟩
      ·replace c8 := Bool.eq_false_iff.mpr c8
       subst c8
       rw [if_neg (show ¬ (false = true) by decide)] at H
       obtain rfl := Option.some.inj H
       go_wp2
       go_ret
       exact ⟨qe, qb1 HB.out GE384.out⟩
     ·rw [if_neg c6] at H
      exact absurd H (by simp)
    ·rw [if_neg c5] at H
     exact absurd H (by simp)
   ·rw [if_neg c4] at H
    have c4b0 : decide (x8_1 < (l0_2.length : Int)) = false := decide_eq_false c4; clear c4; replace H := Option.bind_eq_some_iff.mp H; obtain ⟨t385, A130, H⟩ := H; have A13 := vA A130; clear A130; obtain ⟨hcz14_0, hcz14_1, hcz14_2⟩ := v3c BK384.out; obtain ⟨hfz14_0, hfz14_1, hfz14_2⟩ := v3f BK384.out
    go_wp2_with (first | ((with_reducible refine gate_callee (f := 97) rfl ?_); refine goesL_ (some 27) rfl rfl Try.func97 (by kernel_rfl) rfl #[.int .i64 a0_0, .int .i64 0, .int .i64 2] rfl qm ?_; (with_reducible refine (impl_within.calls a0_0 0 2 t385 _ A13.out).mono ?_)))
    first | rintro e w' rfl ⟨nd, rfl⟩ | rintro e w' ⟨rfl, ⟨nd, rfl⟩⟩
    refine ⟨_, rfl, ?_⟩
    by_cases c15 : t385 = true
    ·subst c15
     rw [if_pos rfl] at H; replace H := Option.bind_eq_some_iff.mp H; obtain ⟨t386, A160, H⟩ := H; have A16 := vA A160; clear A160
     by_cases c18 : t386 = true
     ·subst c18
      rw [if_pos rfl] at H
      by_cases c19 : (l0_2.length : Int) = 2
      ·rw [if_pos c19] at H
       have c19b0 : ((l0_2.length : Int) == 2) = true := beq_iff_eq.mpr c19; have c19b1 : ((l0_2.length : Int) != 2) = false := bne_eq_false_iff_eq.mpr c19; clear c19
       by_cases c20 : a0_0 = 0
       ·rw [if_pos c20] at H
        have c20b0 : (a0_0 == 0) = true := beq_iff_eq.mpr c20; have c20b1 : (a0_0 != 0) = false := bne_eq_false_iff_eq.mpr c20; clear c20; obtain rfl := Option.some.inj H; obtain ⟨hcz21_0, hcz21_1, hcz21_2⟩ := v3c BK384.out; obtain ⟨hfz21_0, hfz21_1, hfz21_2⟩ := v3f BK384.out
        go_wp2_with (first | (go_at_call 97; (with_reducible refine (impl_within.calls a0_1 0 200 true _ A16.out).mono ?_); rintro e w' ⟨rfl, ⟨nd, rfl⟩⟩))
        go_ret
        exact ⟨qe, qb1 HB.out GE384.out⟩
       ·rw [if_neg c20] at H
        have c20b0 : (a0_0 == 0) = false := beq_eq_false_iff_ne.mpr c20; have c20b1 : (a0_0 != 0) = true := bne_iff_ne.mpr c20; obtain rfl := Option.some.inj H; obtain ⟨hcz22_0, hcz22_1, hcz22_2⟩ := v3c BK384.out; obtain ⟨hfz22_0, hfz22_1, hfz22_2⟩ := v3f BK384.out
        go_wp2_with (first | (go_at_call 97; (with_reducible refine (impl_within.calls a0_1 0 200 true _ A16.out).mono ?_); rintro e w' ⟨rfl, ⟨nd, rfl⟩⟩))
        go_ret
        exact ⟨qe, qb1 HB.out GE384.out⟩
      ·rw [if_neg c19] at H
       have c19b0 : ((l0_2.length : Int) == 2) = false := beq_eq_false_iff_ne.mpr c19; have c19b1 : ((l0_2.length : Int) != 2) = true := bne_iff_ne.mpr c19; obtain rfl := Option.some.inj H; obtain ⟨hcz23_0, hcz23_1, hcz23_2⟩ := v3c BK384.out; obtain ⟨hfz23_0, hfz23_1, hfz23_2⟩ := v3f BK384.out
       go_wp2_with (first | (go_at_call 97; (with_reducible refine (impl_within.calls a0_1 0 200 true _ A16.out).mono ?_); rintro e w' ⟨rfl, ⟨nd, rfl⟩⟩))
       go_ret
       exact ⟨qe, qb1 HB.out GE384.out⟩
     ·replace c18 := Bool.eq_false_iff.mpr c18
      subst c18
      rw [if_neg (show ¬ (false = true) by decide)] at H
      obtain rfl := Option.some.inj H; obtain ⟨hcz24_0, hcz24_1, hcz24_2⟩ := v3c BK384.out; obtain ⟨hfz24_0, hfz24_1, hfz24_2⟩ := v3f BK384.out
      go_wp2_with (first | (go_at_call 97; (with_reducible refine (impl_within.calls a0_1 0 200 false _ A16.out).mono ?_); rintro e w' ⟨rfl, ⟨nd, rfl⟩⟩))
      go_ret
      exact ⟨qe, qb1 HB.out GE384.out⟩
    ·replace c15 := Bool.eq_false_iff.mpr c15
     subst c15
     rw [if_neg (show ¬ (false = true) by decide)] at H
     obtain rfl := Option.some.inj H
     go_wp2
     go_ret
     exact ⟨qe, qb1 HB.out GE384.out⟩

end Go.Proofs.Ytdnbpapolckklaa.PFnExactDiskOf
