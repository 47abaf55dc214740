-- Written by a program of this session (a changed copy of the kit's print: wip/print2). Lean checks it.
import Derived.Test.YtdnbpapolckklaaPax
import Derived.Test.YtdnbpapolckklaaPFnExactDiskOfx0
import Derived.Test.YtdnbpapolckklaaPFnExactDiskOfx19
namespace Go.Proofs.Ytdnbpapolckklaa.PFnExactDiskOf
open Go.RowKit Go.Proofs.YtdnbpapolckklaaW.PrintWords Go.Proofs.YtdnbpapolckklaaW.PrintLast Go.Proofs.YtdnbpapolckklaaW.PrintMore
attribute [local go_sem] max2_int min2_int max_two min_two max_three min_three max_four min_four   -- for this text's walks alone
attribute [local go_sem] Go.Proofs.Ytdnbpapolckklaa.Pad.isSome_setCell
set_option linter.unusedVariables false
set_option linter.unusedSimpArgs false

/-! ### impl_ReadInode: function 137 -/
def impl_ReadInode.l0 : Nat → ByteArray → Int → Int → Int → List Int → Option (Int × Int × List Int × Bool)
 | 0, _, _, _, _, _ => none
 | k + 1, x0, x17, x391000, x391001, x391002 => if x17 < 2 then (if 0 ≤ (wrap64 (2 + x17)) then (if (wrap64 (2 + x17)) < (x0.size : Int) then (if x391002.length < 17592186044416 then (impl_ReadInode.l0 k x0 (wrap64 (x17 + 1)) x391000 x391001 (x391002 ++ [wrap64 (bt x0 (wrap64 (2 + x17)))])) else (none)) else (none)) else (none)) else ((impl_InodeOk.f k x391000 x391001 x391002).bind fun t394 => (if t394 = true then (some (x391000, x391001, x391002, true)) else (some (0, 0, ([] : List Int), false))))
def impl_ReadInode.f (k : Nat) (a0 : ByteArray) : Option (Int × Int × List Int × Bool) := if (a0.size : Int) = 4 then (if 0 < (a0.size : Int) then (if 1 < (a0.size : Int) then (impl_ReadInode.l0 k a0 0 (wrap64 (bt a0 0)) (wrap64 (bt a0 1)) ([] : List Int)) else (none)) else (none)) else (some (0, 0, ([] : List Int), false))
def impl_ReadInode.T3 : Bool × List (List Nat × List Nat) := (true, [([], []), ([0], [0]), ([1], [1]), ([], []), ([3], [3]), ([4], [4]), ([2, 5], [2, 5]), ([], []), ([7, 6, 0, 1, 2, 3, 4, 5, 6, 7], [6, 7])])
def impl_ReadInode.B3 : List Nat := [0, 1, 3, 0, 8, 24, 63, 0, 255]
theorem impl_ReadInode.tab3 : rtab .any (opsOf Try.f137 3) = impl_ReadInode.T3 := by kernel_rfl
theorem impl_ReadInode.bits3 : waitsOk impl_ReadInode.T3.2 impl_ReadInode.B3 = true := by kernel_rfl
def impl_ReadInode.T7 : Bool × List (List Nat × List Nat) := (true, [([], []), ([0], [0]), ([], []), ([], []), ([3], [3]), ([2, 4], [2, 4]), ([5], [5]), ([6], [6]), ([1, 7], [1, 7]), ([0, 1, 2, 3, 4, 5, 6, 7, 8], []), ([9, 8, 8, 0, 1, 2, 3, 4, 5, 6, 7, 8], [8, 9])])
def impl_ReadInode.B7 : List Nat := [0, 1, 0, 0, 8, 28, 60, 124, 255, 511, 1023]
theorem impl_ReadInode.tab7 : rtab .any (opsOf Try.f137 7) = impl_ReadInode.T7 := by kernel_rfl
theorem impl_ReadInode.bits7 : waitsOk impl_ReadInode.T7.2 impl_ReadInode.B7 = true := by kernel_rfl
set_option maxHeartbeats 8000000 in
set_option maxRecDepth 100000 in
theorem impl_ReadInode.calls (k : Nat) (a0 : ByteArray) (r1 : Int) (r2 : Int) (r3 : List Int) (r4 : Bool) (w : World) (h : impl_ReadInode.f k a0 = some (r1, r2, r3, r4)) :
  Calls Try.prog 137 #[.string a0] w fun e w' => ∃ v2_ : Value, e = .returned (.tuple #[.agg #[.int .i64 r1, .int .i64 r2, v2_], .bool r4]) ∧ Kd.R (Kd.int .i64) 3 w' w.heap.size (fun _ => True) v2_ r3 ∧ Below w.heap.size w w' := by
 have hu105 := Try.underlying105
 have HB := vA (Below.refl w.heap.size w)
 have H : (if (a0.size : Int) = 4 then (if 0 < (a0.size : Int) then (if 1 < (a0.size : Int) then (impl_ReadInode.l0 k a0 0 (wrap64 (bt a0 0)) (wrap64 (bt a0 1)) ([] : List Int)) else (none)) else (none)) else (some (0, 0, ([] : List Int), false))) = some (r1, r2, r3, r4) := h
 clear h
 by_cases c2 : (a0.size : Int) = 4
 ·rw [if_pos c2] at H
  have c2b0 : ((a0.size : Int) == 4) = true := beq_iff_eq.mpr c2; have c2b1 : ((a0.size : Int) != 4) = false := bne_eq_false_iff_eq.mpr c2; clear c2
  by_cases c3 : 0 < (a0.size : Int)
  ·rw [if_pos c3] at H
   have c3b0 : decide (0 < (a0.size : Int)) = true := decide_eq_true c3
   have c3b1 : decide (0 < a0.size) = true := decide_eq_true (by omega)
   clear c3
   by_cases c5 : 1 < (a0.size : Int)
   ·rw [if_pos c5] at H
    have c5b0 : decide (1 < (a0.size : Int)) = true := decide_eq_true c5
    have c5b1 : decide (1 < a0.size) = true := decide_eq_true (by omega)
    clear c5; have H' := vA H; clear H
    go_enter Try.func137, Try.ntmps137
    try go_wp2_with (first | ((with_reducible refine gate_dst (N := 2) rfl ?_); refine vx (N := 2) (cs := #[.int .i64 0, .int .i64 0, .slice none 0 0]) (t := 105) ?_; intro gb389 hg w7 hbox hb; have BK389 := vA (hbox); have GW389 := vA ((vg hg (qb HB.out))); have GE389 := GW389; replace HB := vbs HB hb; clear hb hbox hg))
    replace BK389 := vA (blk_drew BK389.out); replace HB := vA (below_drew1 HB.out)
    have p4 : 0 ≤ (0 : Int) := (by omega)
    have q4 : 0 < a0.size := (by have : (0 : Int) < (a0.size : Int) := qo; omega)
    have hx4 : ∀ h : 0 < a0.size, ((a0[0]'h).toNat : Int) = bt a0 0 := bt_at a0 0; clear p4; have qi4 : (0 < (a0.size : Int)) = True := eq_true qo; replace q4 := eq_true q4
    have p6 : 0 ≤ (1 : Int) := (by omega)
    have q6 : 1 < a0.size := (by have : (1 : Int) < (a0.size : Int) := qo; omega)
    have hx6 : ∀ h : 1 < a0.size, ((a0[1]'h).toNat : Int) = bt a0 1 := bt_at a0 1; clear p6; have qi6 : (1 < (a0.size : Int)) = True := eq_true qo; replace q6 := eq_true q6
    refine start_ (n := 9) (S := fun w' => True) (ds := []) #[false, false, false, false, false, false, false, false, false] (by kernel_rfl) rfl rfl trivial (fun hHeld => ?_); refine with_tabW impl_ReadInode.tab3 impl_ReadInode.bits3 (fun HT_ HW_ => ?_)
    generalize w7.drew = w8 at BK389 HB hHeld ⊢
    refine pure_ (i := 0) (N := some 10) (v := ?_) (a' := ?_) #[true, false, false, false, false, false, false, false, false] rfl rfl (any_of HT_.out (by kernel_rfl)) (fun _ _ _ h => h) (Or.inl ⟨by rfl, ?_⟩) ?_ ?_
    rotate_left
    ·intro w'
     go_simp
     with_reducible rfl
    rotate_left
    ·refine qp ?_
     rfl
    refine pure_ (i := 3) (N := some 13) (v := ?_) (a' := ?_) #[true, false, false, true, false, false, false, false, false] rfl rfl (any_of HT_.out (by kernel_rfl)) (fun _ _ _ h => h) (Or.inl ⟨by rfl, ?_⟩) ?_ ?_
    rotate_left
    ·intro w'
     go_simp
     with_reducible rfl
    rotate_left
    ·refine qp ?_
     rfl
    refine take_ (i := 1) (N := some 11) (v := ?_) (a' := ?_) #[true, true, false, true, false, false, false, false, false] rfl rfl (take_ofW HT_.out HW_.out (by kernel_rfl)) (fun _ _ _ h => h) (Or.inl ⟨by rfl, ?_⟩) hHeld ?_ ?_
    rotate_left
    ·intro w' _
     go_simp
     with_reducible rfl
    rotate_left
    ·refine qp ?_
     rfl
    refine pure_ (i := 2) (N := some 12) (v := ?_) (a' := ?_) #[true, true, true, true, false, false, false, false, false] rfl rfl (any_of HT_.out (by kernel_rfl)) (fun _ _ _ h => h) (Or.inl ⟨by rfl, ?_⟩) ?_ ?_
    rotate_left
    ·intro w'
     go_simp
     with_reducible rfl
    rotate_left
    ·refine qp ?_
     rfl
    refine take_ (i := 4) (N := some 14) (v := ?_) (a' := ?_) #[true, true, true, true, true, false, false, false, false] rfl rfl (take_ofW HT_.out HW_.out (by kernel_rfl)) (fun _ _ _ h => h) (Or.inl ⟨by rfl, ?_⟩) hHeld ?_ ?_
    rotate_left
    ·intro w' _
     go_simp
     with_reducible rfl
    rotate_left
    ·refine qp ?_
     rfl
    refine pure_ (i := 5) (N := some 15) (v := ?_) (a' := ?_) #[true, true, true, true, true, true, false, false, false] rfl rfl (any_of HT_.out (by kernel_rfl)) (fun _ _ _ h => h) (Or.inl ⟨by rfl, ?_⟩) ?_ ?_
    rotate_left
    ·intro w'
     go_simp
     with_reducible rfl
    rotate_left
    ·refine qp ?_
     rfl
    refine pure_ (i := 6) (N := some 16) (v := ?_) (a' := ?_) #[true, true, true, true, true, true, true, false, false] rfl rfl (any_of HT_.out (by kernel_rfl)) (fun _ _ _ h => h) (Or.inl ⟨by rfl, ?_⟩) ?_ ?_
    rotate_left
    ·intro w'
     go_simp
     with_reducible rfl
    rotate_left
    ·refine qp ?_
     rfl
    refine one_ (i := 7) (N := some 4) #[true, true, true, true, true, true, true, true, false] rfl rfl (one_of HT_.out (by kernel_rfl)) (by decide) (fun K hK => ?_)
    refine box_step ?hg (N := 4) ?hd (cs := #[.int .i64 0, .int .i64 0, .slice none 0 0]) (t := 105) ?hr ?_; (case hd => rfl); (case hg => rfl); (case hr => first | (go_simp; done) | (go_simp; rfl))
    intro gb390 hg w9 hbox hb; have BK390 := vA (hbox); have GW390 := vA ((vg hg (vh HB))); have GE390 := GW390; replace HB := vbs HB hb; have NB389_390 := vn hg BK389; have NB390_389 := vN hg BK389; replace BK389 := vw BK389 hb; clear hb hbox hg
    refine hK.out _ _ trivial (fun hHeld => ?_)
    clear hK K; refine norm_ (a' := ?_) ?_ ?_; rotate_left
    ·show Act.put _ (some 4) _ = _
     refine qp ?_
     rfl
    refine one_ (i := 8) (N := none) #[true, true, true, true, true, true, true, true, true] rfl rfl (one_of HT_.out (by kernel_rfl)) (by decide) (fun K hK => ?_)
    have hs10 : w9.cell? ⟨gb390, 0, none⟩ = some (.int .i64 0) := (blk_cell BK390.out 0).trans rfl; have hfs10 := blk_frozen BK390.out 0; have hns10_0 := NB389_390.out; have hms10_0 := NB390_389.out; have hs11 : w9.cell? ⟨gb390, 1, none⟩ = some (.int .i64 0) := (blk_cell BK390.out 1).trans rfl; have hfs11 := blk_frozen BK390.out 1; have hns11_0 := NB389_390.out; have hms11_0 := NB390_389.out; have hs12 : w9.cell? ⟨gb390, 2, none⟩ = some (.slice none 0 0) := (blk_cell BK390.out 2).trans rfl; have hfs12 := blk_frozen BK390.out 2; have hns12_0 := NB389_390.out; have hms12_0 := NB390_389.out
    refine skip_ (w1 := ?_) (by rfl) rfl ?_ ?_
    rotate_left
    ·go_simp
     rfl
    refine hK.out _ _ trivial (fun hHeld => ?_)
    clear hK K
    refine done_ (done_of HT_.out (by kernel_rfl)) ?_
    try go_wp2
    go_loopg [17] k (fun kq v17 w' => ∃ (x17_1 : Int) (x391002_1 : List Int) (u391002 : Value), v17 = .int .i64 x17_1 ∧ Aside0 (impl_ReadInode.l0 kq a0 x17_1 (wrap64 (bt a0 0)) (wrap64 (bt a0 1)) x391002_1 = some (r1, r2, r3, r4)) ∧ Aside0 (kq ≤ k) ∧ Aside0 (Kd.R (Kd.int .i64) 3 w' w.heap.size (fun _ => True) u391002 x391002_1) ∧ Aside0 (w'.heap[gb389]? = some (.cells #[.int .i64 0, .int .i64 0, (.slice none 0 0)] 105 (0, 0))) ∧ Aside0 (w'.heap[gb390]? = some (.cells #[.int .i64 (wrap64 (bt a0 0)), .int .i64 (wrap64 (bt a0 1)), u391002] 105 (0, 0))) ∧ Aside0 (Below w.heap.size w w'))
    case atStart => exact ⟨(0), (([] : List Int)), (.slice none 0 0), qz, H', ⟨Nat.le_refl _⟩, ⟨by first | exact Kd.R_nil _ _ _ _ _ | exact Kd.N_nil _ _ _ _ _ | exact Kd.V_nil _ _ _ _ _ | exact Kd.Q_nil _ _ _ _ _ | exact Kd.S_nil _ _ _ _ _⟩, ⟨by refine qK ?_; refine blk_far ?_ NB389_390.out _; refine qK ?_; refine blk_far ?_ NB389_390.out _; refine qK ?_; refine blk_far ?_ NB389_390.out _; refine qK ?_; exact BK389.out⟩, ⟨by refine qK ?_; refine blk_put (cs := #[.int .i64 (wrap64 (bt a0 0)), .int .i64 (wrap64 (bt a0 1)), .slice none 0 0]) ?_ 2 _ rfl; refine qK ?_; refine blk_put (cs := #[.int .i64 (wrap64 (bt a0 0)), .int .i64 0, .slice none 0 0]) ?_ 1 _ rfl; refine qK ?_; refine blk_put (cs := #[.int .i64 0, .int .i64 0, .slice none 0 0]) ?_ 0 _ rfl; refine qK ?_; exact BK390.out⟩, ⟨qb2 HB.out GE389.out GE390.out⟩⟩
    case round =>
     clear H'
     (try clear c1); (try clear c2); (try clear c2b0); (try clear c2b1); (try clear p2); (try clear c3); (try clear c3b0); (try clear c3b1); (try clear p4); (try clear q4); (try clear hx4); (try clear qi4); (try clear c5); (try clear c5b0); (try clear c5b1); (try clear p6); (try clear q6); (try clear hx6); (try clear qi6); (try clear p4); (try clear p6); (try clear q4); (try clear q6)
     obtain ⟨x17_1, x391002_1, u391002, rfl, HA, HK1, HO_391002, BK389, BK390, HB⟩ := hrel
     cases gk with
     | zero => exact absurd HA.out (by simp [impl_ReadInode.l0])
     | succ k1 =>
      have H := HA.out; clear HA
      simp only [impl_ReadInode.l0] at H
      by_cases c13 : x17_1 < 2
      ·rw [if_pos c13] at H
       have c13b0 : decide (x17_1 < 2) = true := decide_eq_true c13; clear c13; obtain ⟨ji14, hji14⟩ : ∃ j_ : Int, (wrap64 (2 + x17_1)) = j_ := ⟨_, rfl⟩
       replace H : (if 0 ≤ (ji14) then (if (ji14) < (a0.size : Int) then (if x391002_1.length < 17592186044416 then (impl_ReadInode.l0 k1 a0 (wrap64 (x17_1 + 1)) (wrap64 (bt a0 0)) (wrap64 (bt a0 1)) (x391002_1 ++ [wrap64 (bt a0 (ji14))])) else (none)) else (none)) else (none)) = some (r1, r2, r3, r4) := by first | (rw [hji14] at H; exact H) | (simp only [hji14] at H ⊢; exact H)
       have hji14w : (IntKind.i64.wrap (2 + x17_1)) = ji14 := (i64_w _).trans hji14
       by_cases c15 : 0 ≤ (ji14)
       ·rw [if_pos c15] at H
        have c15b0 : decide (0 ≤ (ji14)) = true := decide_eq_true c15; clear c15
        by_cases c16 : (ji14) < (a0.size : Int)
        ·rw [if_pos c16] at H
         have c16b0 : decide ((ji14) < (a0.size : Int)) = true := decide_eq_true c16; clear c16
         by_cases c18 : x391002_1.length < 17592186044416
         ·rw [if_pos c18] at H
          have LMc18 := vA c18; clear c18; obtain ⟨y391, hy391⟩ : ∃ y_ : List Int, y_ = (x391002_1 ++ [wrap64 (bt a0 (ji14))]) := ⟨_, rfl⟩
          first | rw [Option.bind_some, ← hy391] at H | rw [← hy391] at H
          have Ny391 := vA hy391; clear hy391; have H' := vA H; clear H
          try go_wp2
          replace HO_391002 := vA (Kd.R_drew HO_391002.out); replace BK389 := vA (blk_drew BK389.out); replace BK390 := vA (blk_drew BK390.out); replace HB := vA (below_drew1 HB.out); have p17 : 0 ≤ ((ji14) : Int) := qo; have q17 : (ji14) < (a0.size : Int) := qo; have hx17 := bt_at a0 (ji14); replace p17 := eq_true p17; replace q17 := eq_true q17
          refine start_ (n := 11) (S := fun w' => w'.cell? ⟨gb390, 0, none⟩ = some (.int .i64 (wrap64 (bt a0 0))) ∧ w'.cell? ⟨gb390, 1, none⟩ = some (.int .i64 (wrap64 (bt a0 1))) ∧ w'.cell? ⟨gb390, 2, none⟩ = some (u391002)) (ds := [10]) #[false, false, false, false, false, false, false, false, false, false, false] (by kernel_rfl) rfl rfl ⟨(blk_cell BK390.out 0).trans rfl, (blk_cell BK390.out 1).trans rfl, (blk_cell BK390.out 2).trans rfl⟩ (fun hHeld => ?_); refine with_tabW impl_ReadInode.tab7 impl_ReadInode.bits7 (fun HT_ HW_ => ?_)
          generalize wr.drew = w19 at HO_391002 BK389 BK390 HB hHeld ⊢
          refine pure_ (i := 0) (N := some 20) (v := ?_) (a' := ?_) #[true, false, false, false, false, false, false, false, false, false, false] rfl rfl (any_of HT_.out (by kernel_rfl)) (fun _ _ _ h => h) (Or.inl ⟨by rfl, ?_⟩) ?_ ?_
          rotate_left
          ·intro w'
           go_simp
           with_reducible rfl
          rotate_left
          ·refine qp ?_
           rfl
          refine pure_ (i := 2) (N := some 22) (v := ?_) (a' := ?_) #[true, false, true, false, false, false, false, false, false, false, false] rfl rfl (any_of HT_.out (by kernel_rfl)) (fun _ _ _ h => h) (Or.inl ⟨by rfl, ?_⟩) ?_ ?_
          rotate_left
          ·intro w'
           go_simp
           with_reducible rfl
          rotate_left
          ·refine qp ?_
           rfl
          refine pure_ (i := 3) (N := some 23) (v := ?_) (a' := ?_) #[true, false, true, true, false, false, false, false, false, false, false] rfl rfl (any_of HT_.out (by kernel_rfl)) (fun _ _ _ h => h) (Or.inl ⟨by rfl, ?_⟩) ?_ ?_
          rotate_left
          ·intro w'
           go_simp
           with_reducible rfl
          rotate_left
          ·refine qp ?_
           rfl
          refine pure_ (i := 4) (N := some 24) (v := ?_) (a' := ?_) #[true, false, true, true, true, false, false, false, false, false, false] rfl rfl (any_of HT_.out (by kernel_rfl)) (fun _ _ _ h => h) (Or.inl ⟨by rfl, ?_⟩) ?_ ?_
          rotate_left
          ·intro w'
           go_simp
           with_reducible rfl
          rotate_left
          ·refine qp ?_
           rfl
          refine take_ (i := 1) (N := some 21) (v := ?_) (a' := ?_) #[true, true, true, true, true, false, false, false, false, false, false] rfl rfl (take_ofW HT_.out HW_.out (by kernel_rfl)) (fun _ _ _ h => h) (Or.inl ⟨by rfl, ?_⟩) hHeld ?_ ?_
          rotate_left
          ·rintro w' ⟨s0, s1, s2⟩
           go_simp
           with_reducible rfl
          rotate_left
          ·refine qp ?_
           rfl
          refine take_ (i := 5) (N := some 25) (v := ?_) (a' := ?_) #[true, true, true, true, true, true, false, false, false, false, false] rfl rfl (take_ofW HT_.out HW_.out (by kernel_rfl)) (fun _ _ _ h => h) (Or.inl ⟨by rfl, ?_⟩) hHeld ?_ ?_
          rotate_left
          ·rintro w' ⟨s0, s1, s2⟩
           go_simp
           with_reducible rfl
          rotate_left
          ·refine qp ?_
           rfl
          refine pure_ (i := 6) (N := some 26) (v := ?_) (a' := ?_) #[true, true, true, true, true, true, true, false, false, false, false] rfl rfl (any_of HT_.out (by kernel_rfl)) (fun _ _ _ h => h) (Or.inl ⟨by rfl, ?_⟩) ?_ ?_
          rotate_left
          ·intro w'
           go_simp
           with_reducible rfl
          rotate_left
          ·refine qp ?_
           rfl
          refine one_ (i := 7) (N := some 27) #[true, true, true, true, true, true, true, true, false, false, false] rfl rfl (one_of HT_.out (by kernel_rfl)) (by decide) (fun K hK => ?_)
          refine value_ (w1 := ?_) (v := ?_) (by rfl) rfl ?_ ?_
          rotate_left 2
          ·go_simp
           constructor
           ·rfl
           ·rfl
          refine hK.out _ _ ⟨(blk_cell (blk_alloc BK390.out _) 0).trans rfl, (blk_cell (blk_alloc BK390.out _) 1).trans rfl, (blk_cell (blk_alloc BK390.out _) 2).trans rfl⟩ (fun hHeld => ?_)
          clear hK K; refine norm_ (a' := ?_) ?_ ?_; rotate_left
          ·show Act.put _ (some 27) _ = _
           refine qp ?_
           rfl
          refine one_ (i := 8) (N := some 28) #[true, true, true, true, true, true, true, true, true, false, false] rfl rfl (one_of HT_.out (by kernel_rfl)) (by decide) (fun K hK => ?_)
          refine Kd.R_append_step (Kd.int .i64) (w0 := w) w.heap.size (by rfl) (.tmp 21) (.tmp 27) 103 3 (.int .i64 0) 8 rfl Try.underlying103 info3 rfl (by decide) (by omega) u391002 x391002_1 (wrap64 (bt a0 (ji14))) [.int .i64 (wrap64 (bt a0 (ji14)))] (fun _ => True) (fun _ => False) rfl rfl ?aP (fun _ hk => hk.elim) ?aF ?aO ?aB ?aS ?aL ?_
          (case aP => exact rfl)
          (case aB => exact (vh HB))
          (case aF => exact (fun _ _ => trivial))
          (case aO => exact (qr HO_391002.out))
          (case aS => exact (below_size (vh HB)))
          (case aL => have := LMc18.out; omega)
          intro v392 w20 ho hb hg hat
          rw [← Ny391.out] at ho
          replace BK389 := vG BK389 hg (Kd.R_ne HO_391002.out BK389.out (by decide))
          replace BK390 := vG BK390 hg (Kd.R_ne HO_391002.out BK390.out (by decide))
          replace HB := vA (hb); have HO393 := vA (ho); clear HO_391002 ho hb hg hat; obtain ⟨Ao21, co21, eo21⟩ := Kd.R_slice HO393.out
          (first | subst eo21 | (injection eo21 with f1_ f2_ f3_; have f4_ := f1_.symm; have f5_ := f3_.symm; clear f1_ f2_ f3_; subst f4_; subst f5_))
          refine hK.out _ _ ⟨(blk_cell BK390.out 0).trans rfl, (blk_cell BK390.out 1).trans rfl, (blk_cell BK390.out 2).trans rfl⟩ (fun hHeld => ?_)
          clear hK K; refine norm_ (a' := ?_) ?_ ?_; rotate_left
          ·show Act.put _ (some 28) _ = _
           refine qp ?_
           rfl
          refine pure_ (i := 9) (N := some 29) (v := ?_) (a' := ?_) #[true, true, true, true, true, true, true, true, true, true, false] rfl rfl (any_of HT_.out (by kernel_rfl)) (fun _ _ _ h => h) (Or.inl ⟨by rfl, ?_⟩) ?_ ?_
          rotate_left
          ·intro w'
           go_simp
           with_reducible rfl
          rotate_left
          ·refine qp ?_
           rfl
          refine last_ (i := 10) (N := none) #[true, true, true, true, true, true, true, true, true, true, true] rfl rfl (one_of HT_.out (by kernel_rfl)) (by decide) (fun K hK => ?_)
          have hs22 : w20.cell? ⟨gb390, 2, none⟩ = some (u391002) := (blk_cell BK390.out 2).trans rfl; have hfs22 := blk_frozen BK390.out 2; have hns22_0 := NB389_390.out; have hms22_0 := NB390_389.out
          refine skip_ (w1 := ?_) (by rfl) rfl ?_ ?_
          rotate_left
          ·go_simp
           rfl
          refine hK.out _ _ ?_; clear hK K
          refine done_ (done_of HT_.out (by kernel_rfl)) ?_
          try go_wp2
          go_roundg k1
          case measure => have := HK1.out; omega
          case rel => exact ⟨(wrap64 (x17_1 + 1)), (y391), (.slice Ao21 y391.length co21), qz, H', ⟨by have := HK1.out; omega⟩, ⟨by refine qR ?_; exact Kd.R_mono (Kd.R_far (p := ⟨gb390, 2, none⟩) (Kd.R_types HO393.out BK390.out (by decide)) (fun _ hk => hk.2) (.slice Ao21 y391.length co21)) (fun _ hk => trivial)⟩, ⟨by refine qK ?_; refine blk_far ?_ NB389_390.out _; refine qK ?_; exact BK389.out⟩, ⟨by refine qK ?_; refine blk_put (cs := #[.int .i64 (wrap64 (bt a0 0)), .int .i64 (wrap64 (bt a0 1)), u391002]) ?_ 2 _ rfl; refine qK ?_; exact BK390.out⟩, ⟨qb2 HB.out GE389.out GE390.out⟩⟩
         ·rw [if_neg c18] at H
          exact absurd H (by simp)
        ·rw [if_neg c16] at H
         exact absurd H (by simp)
       ·rw [if_neg c15] at H
        exact absurd H (by simp)
      ·rw [if_neg c13] at H
       have c13b0 : decide (x17_1 < 2) = false := decide_eq_false c13; clear c13; replace H := Option.bind_eq_some_iff.mp H; obtain ⟨t394, A230, H⟩ := H; have A23 := vA A230; clear A230
       by_cases c24 : t394 = true
       ·subst c24
        rw [if_pos rfl] at H
        simp only [Option.some.injEq, Prod.mk.injEq] at H
        obtain ⟨rfl, rfl, rfl, rfl⟩ := H; have hnb25 := NB390_389.out; have hnc25 := NB389_390.out; obtain ⟨hcz26_0, hcz26_1, hcz26_2⟩ := v3c BK390.out; obtain ⟨hfz26_0, hfz26_1, hfz26_2⟩ := v3f BK390.out; obtain ⟨Ao27, co27, eo27⟩ := Kd.R_slice HO_391002.out; subst eo27
        go_wp2_with (first | ((with_reducible refine gate_callee (f := 119) rfl ?_); refine goesL_ (some 32) rfl rfl Try.func119 (by kernel_rfl) rfl #[.agg #[.int .i64 (wrap64 (bt a0 0)), .int .i64 (wrap64 (bt a0 1)), .slice Ao27 x391002_1.length co27]] rfl qm ?_; (with_reducible refine (impl_InodeOk.calls k1 (wrap64 (bt a0 0)) (wrap64 (bt a0 1)) _ _ x391002_1 true _ (vd (Kd.R_reads' HO_391002.out).2.2) ((Kd.R_reads' HO_391002.out).2.1) A23.out).mono ?_); rintro e w28 ⟨rfl, hb⟩; refine ⟨_, rfl, ?_⟩; replace HO_391002 := vrb HO_391002 hb; replace BK389 := vw BK389 hb; replace BK390 := vw BK390 hb; replace HB := vbs HB hb; clear hb; obtain ⟨hcz29_0, hcz29_1, hcz29_2⟩ := v3c BK390.out; obtain ⟨hfz29_0, hfz29_1, hfz29_2⟩ := v3f BK390.out; obtain ⟨hcz30_0, hcz30_1, hcz30_2⟩ := v3c BK389.out; obtain ⟨hfz30_0, hfz30_1, hfz30_2⟩ := v3f BK389.out))
        refine bodyPost_ret (results_ct rfl _ _ gb389 105 #[.int .i64 (wrap64 (bt a0 0)), .int .i64 (wrap64 (bt a0 1)), .slice Ao27 x391002_1.length co27] (0, 0) _ rfl (blk_put (blk_put (blk_put BK389.out 0 _ rfl) 1 _ rfl) 2 _ rfl) Try.underlying105 rfl (by kernel_rfl)) rfl ?_
        exact ⟨_, qe, by refine qR ?_; exact Kd.R_mono (Kd.R_far (p := ⟨gb389, 2, none⟩) (Kd.R_far (p := ⟨gb389, 1, none⟩) (Kd.R_far (p := ⟨gb389, 0, none⟩) (Kd.R_types HO_391002.out BK389.out (by decide)) (fun _ hk => hk.2) (.int .i64 (wrap64 (bt a0 0)))) (fun _ hk => hk.2) (.int .i64 (wrap64 (bt a0 1)))) (fun _ hk => hk.2) (.slice Ao27 x391002_1.length co27)) (fun _ hk => trivial), qb2 HB.out GE389.out GE390.out⟩
       ·replace c24 := Bool.eq_false_iff.mpr c24
        subst c24
        rw [if_neg (show ¬ (false = true) by decide)] at H
        simp only [Option.some.injEq, Prod.mk.injEq] at H
        obtain ⟨rfl, rfl, rfl, rfl⟩ := H; have hnb31 := NB390_389.out; have hnc31 := NB389_390.out; obtain ⟨hcz32_0, hcz32_1, hcz32_2⟩ := v3c BK390.out; obtain ⟨hfz32_0, hfz32_1, hfz32_2⟩ := v3f BK390.out; obtain ⟨Ao33, co33, eo33⟩ := Kd.R_slice HO_391002.out; subst eo33
        go_wp2_with (first | ((with_reducible refine gate_callee (f := 119) rfl ?_); refine goesL_ (some 32) rfl rfl Try.func119 (by kernel_rfl) rfl #[.agg #[.int .i64 (wrap64 (bt a0 0)), .int .i64 (wrap64 (bt a0 1)), .slice Ao33 x391002_1.length co33]] rfl qm ?_; (with_reducible refine (impl_InodeOk.calls k1 (wrap64 (bt a0 0)) (wrap64 (bt a0 1)) _ _ x391002_1 false _ (vd (Kd.R_reads' HO_391002.out).2.2) ((Kd.R_reads' HO_391002.out).2.1) A23.out).mono ?_); rintro e w34 ⟨rfl, hb⟩; refine ⟨_, rfl, ?_⟩; replace HO_391002 := vrb HO_391002 hb; replace BK389 := vw BK389 hb; replace BK390 := vw BK390 hb; replace HB := vbs HB hb; clear hb; obtain ⟨hcz35_0, hcz35_1, hcz35_2⟩ := v3c BK389.out; obtain ⟨hfz35_0, hfz35_1, hfz35_2⟩ := v3f BK389.out))
        refine bodyPost_ret (results_ct rfl _ _ gb389 105 #[.int .i64 0, .int .i64 0, .slice none 0 0] (0, 0) _ rfl (blk_put (blk_put (blk_put BK389.out 0 _ rfl) 1 _ rfl) 2 _ rfl) Try.underlying105 rfl (by kernel_rfl)) rfl ?_
        exact ⟨_, qe, by first | exact Kd.R_nil _ _ _ _ _ | exact Kd.N_nil _ _ _ _ _ | exact Kd.V_nil _ _ _ _ _ | exact Kd.Q_nil _ _ _ _ _ | exact Kd.S_nil _ _ _ _ _, qb2 HB.out GE389.out GE390.out⟩
   ·rw [if_neg c5] at H
    exact absurd H (by simp)
  ·rw [if_neg c3] at H
   exact absurd H (by simp)
 ·rw [if_neg c2] at H
  have c2b0 : ((a0.size : Int) == 4) = false := beq_eq_false_iff_ne.mpr c2; have c2b1 : ((a0.size : Int) != 4) = true := bne_iff_ne.mpr c2
  simp only [Option.some.injEq, Prod.mk.injEq] at H
  obtain ⟨rfl, rfl, rfl, rfl⟩ := H
  go_enter Try.func137, Try.ntmps137
  go_wp2_with (first | ((with_reducible refine gate_dst (N := 2) rfl ?_); refine vx (N := 2) (cs := #[.int .i64 0, .int .i64 0, .slice none 0 0]) (t := 105) ?_; intro gb389 hg w36 hbox hb; have BK389 := vA (hbox); have GW389 := vA ((vg hg (qb HB.out))); have GE389 := GW389; replace HB := vbs HB hb; clear hb hbox hg; obtain ⟨hcz37_0, hcz37_1, hcz37_2⟩ := v3c BK389.out; obtain ⟨hfz37_0, hfz37_1, hfz37_2⟩ := v3f BK389.out))
  refine bodyPost_ret (results_ct rfl _ _ gb389 105 #[.int .i64 0, .int .i64 0, .slice none 0 0] (0, 0) _ rfl (blk_put (blk_put (blk_put BK389.out 0 _ rfl) 1 _ rfl) 2 _ rfl) Try.underlying105 rfl (by kernel_rfl)) rfl ?_
  exact ⟨_, qe, by first | exact Kd.R_nil _ _ _ _ _ | exact Kd.N_nil _ _ _ _ _ | exact Kd.V_nil _ _ _ _ _ | exact Kd.Q_nil _ _ _ _ _ | exact Kd.S_nil _ _ _ _ _, qb1 HB.out GE389.out⟩

/-! ### impl_InodeNew: function 138 -/
def impl_InodeNew.f (a0 : Int) : Option (Int × Int × List Int) := if 2 ≤ 35184372088832 then ((some (List.replicate 2 0 : List Int)).bind fun y396 => (if a0 = 0 then (some (a0, 0, y396)) else (some (a0, 1, y396)))) else (none)
set_option maxHeartbeats 8000000 in
set_option maxRecDepth 100000 in
theorem impl_InodeNew.calls (a0 : Int) (r1 : Int) (r2 : Int) (r3 : List Int) (w : World) (h : impl_InodeNew.f a0 = some (r1, r2, r3)) :
  Calls Try.prog 138 #[.int .i64 a0] w fun e w' => ∃ v2_ : Value, e = .returned (.agg #[.int .i64 r1, .int .i64 r2, v2_]) ∧ Kd.R (Kd.int .i64) 3 w' w.heap.size (fun _ => True) v2_ r3 ∧ Below w.heap.size w w' := by
 have hu105 := Try.underlying105
 have HB := vA (Below.refl w.heap.size w)
 have H : (if 2 ≤ 35184372088832 then ((some (List.replicate 2 0 : List Int)).bind fun y396 => (if a0 = 0 then (some (a0, 0, y396)) else (some (a0, 1, y396)))) else (none)) = some (r1, r2, r3) := h
 clear h
 by_cases c2 : 2 ≤ 35184372088832
 ·rw [if_pos c2] at H
  have c2b0 := eq_true c2; have c2b1 : decide (2 ≤ 35184372088832) = true := decide_eq_true c2; clear c2; obtain ⟨y396, hy396⟩ : ∃ y_ : List Int, y_ = (List.replicate 2 0) := ⟨_, rfl⟩
  first | rw [Option.bind_some, ← hy396] at H | rw [← hy396] at H
  have Ny396 := vA hy396; clear hy396
  by_cases c3 : a0 = 0
  ·rw [if_pos c3] at H
   have c3b0 : (a0 == 0) = true := beq_iff_eq.mpr c3; have c3b1 : (a0 != 0) = false := bne_eq_false_iff_eq.mpr c3; clear c3
   simp only [Option.some.injEq, Prod.mk.injEq] at H
   obtain ⟨rfl, rfl, rfl⟩ := H
   go_enter Try.func138, Try.ntmps138
   go_wp2_with (first | ((with_reducible refine gate_dst (N := 2) rfl ?_); refine vx (N := 2) (cs := #[.int .i64 0, .int .i64 0, .slice none 0 0]) (t := 105) ?_; intro gb395 hg w4 hbox hb; have BK395 := vA (hbox); have GW395 := vA ((vg hg (qb HB.out))); have GE395 := GW395; replace HB := vbs HB hb; clear hb hbox hg) | ((with_reducible refine gate_dst (N := 5) rfl ?_); refine Kd.R_make (Kd.int .i64) _ 3 rfl (N := 5) rfl 103 _ _ rfl 2 rfl rfl Try.underlying103 (.int .i64 0) 8 info3 rfl (by decide) (by omega) 0 (ok := fun _ => True) (okp := fun _ => True) rfl (fun _ hk => hk) trivial (by omega) (by omega) (Below.refl _ _) (Nat.le_refl _) ?_; intro v397 w5 ho6 hb hg_ hnew_; clear hg_ hnew_; (first | rw [← Ny396.out] at ho6 | (simp only [Int.reduceToNat] at ho6; rw [← Ny396.out] at ho6)); have HO398 := vA (Kd.R_lower ho6 (below_size (vh HB))); replace BK395 := vw BK395 hb; replace HB := vbs HB hb; clear hb ho6; obtain ⟨Ao7, co7, eo7⟩ := Kd.R_slice HO398.out; subst eo7) | ((with_reducible refine gate_dst (N := 3) rfl ?_); refine vx (N := 3) (cs := #[.int .i64 0, .int .i64 0, .slice none 0 0]) (t := 105) ?_; intro gb399 hg w8 hbox hb; replace HO398 := vrb HO398 hb; have BK399 := vA (hbox); have GW399 := vA ((vg hg (vh HB))); have GE399 := GW399; replace HB := vbs HB hb; have NB395_399 := vn hg BK395; have NB399_395 := vN hg BK395; replace BK395 := vw BK395 hb; clear hb hbox hg; have hnb9 := NB399_395.out; have hnc9 := NB395_399.out; obtain ⟨hcz10_0, hcz10_1, hcz10_2⟩ := v3c BK399.out; obtain ⟨hfz10_0, hfz10_1, hfz10_2⟩ := v3f BK399.out; obtain ⟨hcz11_0, hcz11_1, hcz11_2⟩ := v3c BK395.out; obtain ⟨hfz11_0, hfz11_1, hfz11_2⟩ := v3f BK395.out))
   refine bodyPost_ret (results_cell_row rfl _ _ gb395 105 #[.int .i64 a0, .int .i64 0, .slice Ao7 y396.length co7] (0, 0) _ rfl (by refine qK ?_; refine blk_put (cs := #[.int .i64 a0, .int .i64 0, .slice none 0 0]) ?_ 2 _ rfl; refine qK ?_; refine blk_put (cs := #[.int .i64 a0, .int .i64 0, .slice none 0 0]) ?_ 1 _ rfl; refine qK ?_; refine blk_put (cs := #[.int .i64 0, .int .i64 0, .slice none 0 0]) ?_ 0 _ rfl; refine qK ?_; refine blk_far ?_ NB395_399.out _; refine qK ?_; refine blk_far ?_ NB395_399.out _; refine qK ?_; refine blk_far ?_ NB395_399.out _; refine qK ?_; refine blk_far ?_ NB395_399.out _; refine qK ?_; exact BK395.out) Try.underlying105 rfl (by kernel_rfl)) rfl ?_
   exact ⟨_, qe, by refine qR ?_; exact Kd.R_mono (Kd.R_far (p := ⟨gb395, 2, none⟩) (Kd.R_far (p := ⟨gb395, 1, none⟩) (Kd.R_far (p := ⟨gb395, 0, none⟩) (Kd.R_far (p := ⟨gb399, 1, none⟩) (Kd.R_far (p := ⟨gb399, 2, none⟩) (Kd.R_far (p := ⟨gb399, 1, none⟩) (Kd.R_far (p := ⟨gb399, 0, none⟩) (Kd.R_types (Kd.R_types HO398.out BK399.out (by decide)) BK395.out (by decide)) (fun _ hk => hk.1.2) (.int .i64 a0)) (fun _ hk => hk.1.2) (.int .i64 1)) (fun _ hk => hk.1.2) (.slice Ao7 y396.length co7)) (fun _ hk => hk.1.2) (.int .i64 0)) (fun _ hk => hk.2) (.int .i64 a0)) (fun _ hk => hk.2) (.int .i64 0)) (fun _ hk => hk.2) (.slice Ao7 y396.length co7)) (fun _ hk => trivial), qb2 HB.out GE395.out GE399.out⟩
  ·rw [if_neg c3] at H
   have c3b0 : (a0 == 0) = false := beq_eq_false_iff_ne.mpr c3; have c3b1 : (a0 != 0) = true := bne_iff_ne.mpr c3
   simp only [Option.some.injEq, Prod.mk.injEq] at H
   obtain ⟨rfl, rfl, rfl⟩ := H
   go_enter Try.func138, Try.ntmps138
   go_wp2_with (first | ((with_reducible refine gate_dst (N := 2) rfl ?_); refine vx (N := 2) (cs := #[.int .i64 0, .int .i64 0, .slice none 0 0]) (t := 105) ?_; intro gb395 hg w12 hbox hb; have BK395 := vA (hbox); have GW395 := vA ((vg hg (qb HB.out))); have GE395 := GW395; replace HB := vbs HB hb; clear hb hbox hg) | ((with_reducible refine gate_dst (N := 5) rfl ?_); refine Kd.R_make (Kd.int .i64) _ 3 rfl (N := 5) rfl 103 _ _ rfl 2 rfl rfl Try.underlying103 (.int .i64 0) 8 info3 rfl (by decide) (by omega) 0 (ok := fun _ => True) (okp := fun _ => True) rfl (fun _ hk => hk) trivial (by omega) (by omega) (Below.refl _ _) (Nat.le_refl _) ?_; intro v397 w13 ho14 hb hg_ hnew_; clear hg_ hnew_; (first | rw [← Ny396.out] at ho14 | (simp only [Int.reduceToNat] at ho14; rw [← Ny396.out] at ho14)); have HO398 := vA (Kd.R_lower ho14 (below_size (vh HB))); replace BK395 := vw BK395 hb; replace HB := vbs HB hb; clear hb ho14; obtain ⟨Ao15, co15, eo15⟩ := Kd.R_slice HO398.out; subst eo15) | ((with_reducible refine gate_dst (N := 3) rfl ?_); refine vx (N := 3) (cs := #[.int .i64 0, .int .i64 0, .slice none 0 0]) (t := 105) ?_; intro gb399 hg w16 hbox hb; replace HO398 := vrb HO398 hb; have BK399 := vA (hbox); have GW399 := vA ((vg hg (vh HB))); have GE399 := GW399; replace HB := vbs HB hb; have NB395_399 := vn hg BK395; have NB399_395 := vN hg BK395; replace BK395 := vw BK395 hb; clear hb hbox hg; have hnb17 := NB399_395.out; have hnc17 := NB395_399.out; obtain ⟨hcz18_0, hcz18_1, hcz18_2⟩ := v3c BK399.out; obtain ⟨hfz18_0, hfz18_1, hfz18_2⟩ := v3f BK399.out; obtain ⟨hcz19_0, hcz19_1, hcz19_2⟩ := v3c BK395.out; obtain ⟨hfz19_0, hfz19_1, hfz19_2⟩ := v3f BK395.out))
   refine bodyPost_ret (results_cell_row rfl _ _ gb395 105 #[.int .i64 a0, .int .i64 1, .slice Ao15 y396.length co15] (0, 0) _ rfl (by refine qK ?_; refine blk_put (cs := #[.int .i64 a0, .int .i64 1, .slice none 0 0]) ?_ 2 _ rfl; refine qK ?_; refine blk_put (cs := #[.int .i64 a0, .int .i64 0, .slice none 0 0]) ?_ 1 _ rfl; refine qK ?_; refine blk_put (cs := #[.int .i64 0, .int .i64 0, .slice none 0 0]) ?_ 0 _ rfl; refine qK ?_; refine blk_far ?_ NB395_399.out _; refine qK ?_; refine blk_far ?_ NB395_399.out _; refine qK ?_; refine blk_far ?_ NB395_399.out _; refine qK ?_; exact BK395.out) Try.underlying105 rfl (by kernel_rfl)) rfl ?_
   exact ⟨_, qe, by refine qR ?_; exact Kd.R_mono (Kd.R_far (p := ⟨gb395, 2, none⟩) (Kd.R_far (p := ⟨gb395, 1, none⟩) (Kd.R_far (p := ⟨gb395, 0, none⟩) (Kd.R_far (p := ⟨gb399, 2, none⟩) (Kd.R_far (p := ⟨gb399, 1, none⟩) (Kd.R_far (p := ⟨gb399, 0, none⟩) (Kd.R_types (Kd.R_types HO398.out BK399.out (by decide)) BK395.out (by decide)) (fun _ hk => hk.1.2) (.int .i64 a0)) (fun _ hk => hk.1.2) (.int .i64 1)) (fun _ hk => hk.1.2) (.slice Ao15 y396.length co15)) (fun _ hk => hk.2) (.int .i64 a0)) (fun _ hk => hk.2) (.int .i64 1)) (fun _ hk => hk.2) (.slice Ao15 y396.length co15)) (fun _ hk => trivial), qb2 HB.out GE395.out GE399.out⟩
 ·rw [if_neg c2] at H
  exact absurd H (by simp)

/-! ### impl_inodeOf: function 84 -/
def impl_inodeOf.f (k : Nat) (a0 : ByteArray) : Option (Int × Int × List Int) := (impl_ReadInode.f k a0).bind fun bt401 => (if bt401.2.2.2 = true then (some (bt401.1, bt401.2.1, bt401.2.2.1)) else ((impl_InodeNew.f 0).bind fun bt408 => (some (bt408.1, bt408.2.1, bt408.2.2))))
set_option maxHeartbeats 8000000 in
set_option maxRecDepth 100000 in
theorem impl_inodeOf.calls (k : Nat) (a0 : ByteArray) (r1 : Int) (r2 : Int) (r3 : List Int) (w : World) (h : impl_inodeOf.f k a0 = some (r1, r2, r3)) :
  Calls Try.prog 84 #[.string a0] w fun e w' => ∃ v2_ : Value, e = .returned (.agg #[.int .i64 r1, .int .i64 r2, v2_]) ∧ Kd.R (Kd.int .i64) 3 w' w.heap.size (fun _ => True) v2_ r3 ∧ Below w.heap.size w w' := by
 have hu105 := Try.underlying105
 have HB := vA (Below.refl w.heap.size w)
 have H : ((impl_ReadInode.f k a0).bind fun bt401 => (if bt401.2.2.2 = true then (some (bt401.1, bt401.2.1, bt401.2.2.1)) else ((impl_InodeNew.f 0).bind fun bt408 => (some (bt408.1, bt408.2.1, bt408.2.2))))) = some (r1, r2, r3) := h
 clear h
 replace H := Option.bind_eq_some_iff.mp H
 obtain ⟨⟨t401, t402, t403, t406⟩, A20, H⟩ := H
 dsimp only at H
 have A2 := vA A20
 clear A20
 by_cases c3 : t406 = true
 ·subst c3
  rw [if_pos rfl] at H
  simp only [Option.some.injEq, Prod.mk.injEq] at H
  obtain ⟨rfl, rfl, rfl⟩ := H
  go_enter Try.func84, Try.ntmps84
  go_wp2_with (first | ((with_reducible refine gate_dst (N := 2) rfl ?_); refine vx (N := 2) (cs := #[.int .i64 0, .int .i64 0, .slice none 0 0]) (t := 105) ?_; intro gb400 hg w4 hbox hb; have BK400 := vA (hbox); have GW400 := vA ((vg hg (qb HB.out))); have GE400 := GW400; replace HB := vbs HB hb; clear hb hbox hg) | ((with_reducible refine gate_callee (f := 137) rfl ?_); refine goesL_ (some 7) rfl rfl Try.func137 (by kernel_rfl) rfl #[.string a0] rfl qm ?_; (with_reducible refine (impl_ReadInode.calls k a0 t401 t402 t403 true _ A2.out).mono ?_); rintro e w5 ⟨v404, rfl, ho0, hb⟩; refine ⟨_, rfl, ?_⟩; have HO405 := vA (Kd.R_lower ho0 (below_size (vh HB))); replace BK400 := vw BK400 hb; replace HB := vbs HB hb; clear hb ho0) | ((with_reducible refine gate_dst (N := 3) rfl ?_); refine vx (N := 3) (cs := #[.int .i64 0, .int .i64 0, .slice none 0 0]) (t := 105) ?_; intro gb407 hg w6 hbox hb; replace HO405 := vrb HO405 hb; have BK407 := vA (hbox); have GW407 := vA ((vg hg (vh HB))); have GE407 := GW407; replace HB := vbs HB hb; have NB400_407 := vn hg BK400; have NB407_400 := vN hg BK400; replace BK400 := vw BK400 hb; clear hb hbox hg; have hnb7 := NB407_400.out; have hnc7 := NB400_407.out; obtain ⟨hcz8_0, hcz8_1, hcz8_2⟩ := v3c BK407.out; obtain ⟨hfz8_0, hfz8_1, hfz8_2⟩ := v3f BK407.out; obtain ⟨Ao9, co9, eo9⟩ := Kd.R_slice HO405.out; subst eo9; obtain ⟨hcz10_0, hcz10_1, hcz10_2⟩ := v3c BK400.out; obtain ⟨hfz10_0, hfz10_1, hfz10_2⟩ := v3f BK400.out))
  refine bodyPost_ret (results_cell_row rfl _ _ gb400 105 #[.int .i64 t401, .int .i64 t402, .slice Ao9 t403.length co9] (0, 0) _ rfl (by refine qK ?_; refine blk_put (cs := #[.int .i64 t401, .int .i64 t402, .slice none 0 0]) ?_ 2 _ rfl; refine qK ?_; refine blk_put (cs := #[.int .i64 t401, .int .i64 0, .slice none 0 0]) ?_ 1 _ rfl; refine qK ?_; refine blk_put (cs := #[.int .i64 0, .int .i64 0, .slice none 0 0]) ?_ 0 _ rfl; refine qK ?_; refine blk_far ?_ NB400_407.out _; refine qK ?_; refine blk_far ?_ NB400_407.out _; refine qK ?_; refine blk_far ?_ NB400_407.out _; refine qK ?_; exact BK400.out) Try.underlying105 rfl (by kernel_rfl)) rfl ?_
  exact ⟨_, qe, by refine qR ?_; exact Kd.R_mono (Kd.R_far (p := ⟨gb400, 2, none⟩) (Kd.R_far (p := ⟨gb400, 1, none⟩) (Kd.R_far (p := ⟨gb400, 0, none⟩) (Kd.R_far (p := ⟨gb407, 2, none⟩) (Kd.R_far (p := ⟨gb407, 1, none⟩) (Kd.R_far (p := ⟨gb407, 0, none⟩) (Kd.R_types (Kd.R_types HO405.out BK407.out (by decide)) BK400.out (by decide)) (fun _ hk => hk.1.2) (.int .i64 t401)) (fun _ hk => hk.1.2) (.int .i64 t402)) (fun _ hk => hk.1.2) (.slice Ao9 t403.length co9)) (fun _ hk => hk.2) (.int .i64 t401)) (fun _ hk => hk.2) (.int .i64 t402)) (fun _ hk => hk.2) (.slice Ao9 t403.length co9)) (fun _ hk => trivial), qb2 HB.out GE400.out GE407.out⟩
 ·replace c3 := Bool.eq_false_iff.mpr c3
  subst c3
  rw [if_neg (show ¬ (false = true) by decide)] at H
  replace H := Option.bind_eq_some_iff.mp H; obtain ⟨⟨t408, t409, t410⟩, A110, H⟩ := H
  dsimp only at H
  have A11 := vA A110; clear A110
  simp only [Option.some.injEq, Prod.mk.injEq] at H
  obtain ⟨rfl, rfl, rfl⟩ := H
  go_enter Try.func84, Try.ntmps84
  go_wp2_with (first | ((with_reducible refine gate_dst (N := 2) rfl ?_); refine vx (N := 2) (cs := #[.int .i64 0, .int .i64 0, .slice none 0 0]) (t := 105) ?_; intro gb400 hg w12 hbox hb; have BK400 := vA (hbox); have GW400 := vA ((vg hg (qb HB.out))); have GE400 := GW400; replace HB := vbs HB hb; clear hb hbox hg) | ((with_reducible refine gate_callee (f := 137) rfl ?_); refine goesL_ (some 7) rfl rfl Try.func137 (by kernel_rfl) rfl #[.string a0] rfl qm ?_; (with_reducible refine (impl_ReadInode.calls k a0 t401 t402 t403 false _ A2.out).mono ?_); rintro e w13 ⟨v404, rfl, ho0, hb⟩; refine ⟨_, rfl, ?_⟩; have HO405 := vA (Kd.R_lower ho0 (below_size (vh HB))); replace BK400 := vw BK400 hb; replace HB := vbs HB hb; clear hb ho0) | ((with_reducible refine gate_dst (N := 3) rfl ?_); refine vx (N := 3) (cs := #[.int .i64 0, .int .i64 0, .slice none 0 0]) (t := 105) ?_; intro gb407 hg w14 hbox hb; replace HO405 := vrb HO405 hb; have BK407 := vA (hbox); have GW407 := vA ((vg hg (vh HB))); have GE407 := GW407; replace HB := vbs HB hb; have NB400_407 := vn hg BK400; have NB407_400 := vN hg BK400; replace BK400 := vw BK400 hb; clear hb hbox hg; have hnb15 := NB407_400.out; have hnc15 := NB400_407.out; obtain ⟨hcz16_0, hcz16_1, hcz16_2⟩ := v3c BK407.out; obtain ⟨hfz16_0, hfz16_1, hfz16_2⟩ := v3f BK407.out; obtain ⟨Ao17, co17, eo17⟩ := Kd.R_slice HO405.out; subst eo17) | ((with_reducible refine gate_callee (f := 138) rfl ?_); refine goesL_ (some 12) rfl rfl Try.func138 (by kernel_rfl) rfl #[.int .i64 0] rfl qm ?_; (with_reducible refine (impl_InodeNew.calls 0 t408 t409 t410 _ A11.out).mono ?_); rintro e w18 ⟨v411, rfl, ho0, hb⟩; refine ⟨_, rfl, ?_⟩; have HO412 := vA (Kd.R_lower (Kd.R_new' ho0 (Kd.R_lt (vr HO405 BK407))) (below_size (vh HB))); replace HO405 := vA (Kd.R_elder' (vr HO405 BK407) (Kd.R_base ho0) hb); replace BK400 := vB BK400 NB400_407 hb; replace BK407 := vA (blk_below (g := gb407) (o := .cells #[.int .i64 t401, .int .i64 t402, .slice Ao17 t403.length co17] 105 (0, 0)) (blk_put (blk_put (blk_put BK407.out 0 _ rfl) 1 _ rfl) 2 _ rfl) hb); replace HB := vbs HB hb; clear hb ho0; obtain ⟨hcz19_0, hcz19_1, hcz19_2⟩ := v3c BK400.out; obtain ⟨hfz19_0, hfz19_1, hfz19_2⟩ := v3f BK400.out; obtain ⟨Ao20, co20, eo20⟩ := Kd.R_slice HO412.out; subst eo20))
  refine bodyPost_ret (results_cell_row rfl _ _ gb400 105 #[.int .i64 t408, .int .i64 t409, .slice Ao20 t410.length co20] (0, 0) _ rfl (blk_put (blk_put (blk_put BK400.out 0 _ rfl) 1 _ rfl) 2 _ rfl) Try.underlying105 rfl (by kernel_rfl)) rfl ?_
  exact ⟨_, qe, by refine qR ?_; exact Kd.R_mono (Kd.R_far (p := ⟨gb400, 2, none⟩) (Kd.R_far (p := ⟨gb400, 1, none⟩) (Kd.R_far (p := ⟨gb400, 0, none⟩) (Kd.R_types HO412.out BK400.out (by decide)) (fun _ hk => hk.2) (.int .i64 t408)) (fun _ hk => hk.2) (.int .i64 t409)) (fun _ hk => hk.2) (.slice Ao20 t410.length co20)) (fun _ hk => trivial), qb2 HB.out GE400.out GE407.out⟩

/-! ### bits_Mul32: function 160 -/
def bits_Mul32.f (a0 : Int) (a1 : Int) : Option (Int × Int) := some (((IntKind.u64.wrap ((IntKind.u64.wrap (a0)) * (IntKind.u64.wrap (a1)))) / 4294967296) % 4294967296, (IntKind.u64.wrap ((IntKind.u64.wrap (a0)) * (IntKind.u64.wrap (a1)))) % 4294967296)
set_option maxHeartbeats 8000000 in
set_option maxRecDepth 100000 in
theorem bits_Mul32.calls (a0 : Int) (a1 : Int) (r1 : Int) (r2 : Int) (w : World) (h : bits_Mul32.f a0 a1 = some (r1, r2)) :
  Calls Try.prog 160 #[.int .u32 a0, .int .u32 a1] w fun e w' => e = .returned (.tuple #[.int .u32 r1, .int .u32 r2]) ∧ Drawn0 w w' := by
 have H : (some (((IntKind.u64.wrap ((IntKind.u64.wrap (a0)) * (IntKind.u64.wrap (a1)))) / 4294967296) % 4294967296, (IntKind.u64.wrap ((IntKind.u64.wrap (a0)) * (IntKind.u64.wrap (a1)))) % 4294967296)) = some (r1, r2) := h
 clear h
 simp only [Option.some.injEq, Prod.mk.injEq] at H
 obtain ⟨rfl, rfl⟩ := H
 go_enter Try.func160, Try.ntmps160
 go_wp2
 go_ret2
 exact ⟨qz, qd⟩

/-! ### bits_Mul64: function 161 -/
def bits_Mul64.f (a0 : Int) (a1 : Int) : Option (Int × Int) := some (IntKind.u64.wrap ((IntKind.u64.wrap ((IntKind.u64.wrap ((a0 / 4294967296) * (a1 / 4294967296))) + ((IntKind.u64.wrap ((IntKind.u64.wrap ((a0 / 4294967296) * (Go.bits .and .u64 a1 4294967295))) + ((IntKind.u64.wrap ((Go.bits .and .u64 a0 4294967295) * (Go.bits .and .u64 a1 4294967295))) / 4294967296))) / 4294967296))) + ((IntKind.u64.wrap ((Go.bits .and .u64 (IntKind.u64.wrap ((IntKind.u64.wrap ((a0 / 4294967296) * (Go.bits .and .u64 a1 4294967295))) + ((IntKind.u64.wrap ((Go.bits .and .u64 a0 4294967295) * (Go.bits .and .u64 a1 4294967295))) / 4294967296))) 4294967295) + (IntKind.u64.wrap ((Go.bits .and .u64 a0 4294967295) * (a1 / 4294967296))))) / 4294967296)), IntKind.u64.wrap (a0 * a1))
set_option maxHeartbeats 8000000 in
set_option maxRecDepth 100000 in
theorem bits_Mul64.calls (a0 : Int) (a1 : Int) (r1 : Int) (r2 : Int) (w : World) (h : bits_Mul64.f a0 a1 = some (r1, r2)) :
  Calls Try.prog 161 #[.int .u64 a0, .int .u64 a1] w fun e w' => e = .returned (.tuple #[.int .u64 r1, .int .u64 r2]) ∧ Drawn0 w w' := by
 have H : (some (IntKind.u64.wrap ((IntKind.u64.wrap ((IntKind.u64.wrap ((a0 / 4294967296) * (a1 / 4294967296))) + ((IntKind.u64.wrap ((IntKind.u64.wrap ((a0 / 4294967296) * (Go.bits .and .u64 a1 4294967295))) + ((IntKind.u64.wrap ((Go.bits .and .u64 a0 4294967295) * (Go.bits .and .u64 a1 4294967295))) / 4294967296))) / 4294967296))) + ((IntKind.u64.wrap ((Go.bits .and .u64 (IntKind.u64.wrap ((IntKind.u64.wrap ((a0 / 4294967296) * (Go.bits .and .u64 a1 4294967295))) + ((IntKind.u64.wrap ((Go.bits .and .u64 a0 4294967295) * (Go.bits .and .u64 a1 4294967295))) / 4294967296))) 4294967295) + (IntKind.u64.wrap ((Go.bits .and .u64 a0 4294967295) * (a1 / 4294967296))))) / 4294967296)), IntKind.u64.wrap (a0 * a1))) = some (r1, r2) := h
 clear h
 simp only [Option.some.injEq, Prod.mk.injEq] at H
 obtain ⟨rfl, rfl⟩ := H
 go_enter Try.func161, Try.ntmps161
 go_wp2
 go_ret2
 exact ⟨qz, qd⟩

/-! ### bits_Mul: function 136 -/
def bits_Mul.f (a0 : Int) (a1 : Int) : Option (Int × Int) := (bits_Mul64.f a0 a1).bind fun bt413 => (some (bt413.1, bt413.2))
set_option maxHeartbeats 8000000 in
set_option maxRecDepth 100000 in
theorem bits_Mul.calls (a0 : Int) (a1 : Int) (r1 : Int) (r2 : Int) (w : World) (h : bits_Mul.f a0 a1 = some (r1, r2)) :
  Calls Try.prog 136 #[.int .u64 a0, .int .u64 a1] w fun e w' => e = .returned (.tuple #[.int .u64 r1, .int .u64 r2]) ∧ Drawn0 w w' := by
 have H : ((bits_Mul64.f a0 a1).bind fun bt413 => (some (bt413.1, bt413.2))) = some (r1, r2) := h
 clear h
 replace H := Option.bind_eq_some_iff.mp H
 obtain ⟨⟨t413, t414⟩, A30, H⟩ := H
 dsimp only at H
 have A3 := vA A30
 clear A30
 simp only [Option.some.injEq, Prod.mk.injEq] at H
 obtain ⟨rfl, rfl⟩ := H
 go_enter Try.func136, Try.ntmps136
 go_wp2_with (first | ((with_reducible refine gate_callee (f := 161) rfl ?_); refine goesL_ (some 25) rfl rfl Try.func161 (by kernel_rfl) rfl #[.int .u64 a0, .int .u64 a1] rfl qm ?_; (with_reducible refine (bits_Mul64.calls a0 a1 t413 t414 _ A3.out).mono ?_); rintro e w' ⟨rfl, ⟨nd, rfl⟩⟩; refine ⟨_, rfl, ?_⟩))
 go_ret2
 exact ⟨qz, qd⟩

end Go.Proofs.Ytdnbpapolckklaa.PFnExactDiskOf
