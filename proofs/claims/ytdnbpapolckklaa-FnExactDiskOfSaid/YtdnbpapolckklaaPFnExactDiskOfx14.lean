-- Written by a program of this session (a changed copy of the kit's print: wip/print2). Lean checks it.
import Derived.Test.YtdnbpapolckklaaPax
import Derived.Test.YtdnbpapolckklaaPFnExactDiskOfx0
import Derived.Test.YtdnbpapolckklaaPFnExactDiskOfx13
namespace Go.Proofs.Ytdnbpapolckklaa.PFnExactDiskOf
open Go.RowKit Go.Proofs.YtdnbpapolckklaaW.PrintWords Go.Proofs.YtdnbpapolckklaaW.PrintLast Go.Proofs.YtdnbpapolckklaaW.PrintMore
attribute [local go_sem] max2_int min2_int max_two min_two max_three min_three max_four min_four   -- for this text's walks alone
attribute [local go_sem] Go.Proofs.Ytdnbpapolckklaa.Pad.isSome_setCell
set_option linter.unusedVariables false
set_option linter.unusedSimpArgs false

/-! ### spec_ReadInode: function 78 -/
def spec_ReadInode.f (k : Nat) (a0 : ByteArray) : Option (Int × Int × List Int × Bool) := if (a0.size : Int) = 4 then (if 0 < (a0.size : Int) then (if 1 < (a0.size : Int) then (if 2 < (a0.size : Int) then (if 3 < (a0.size : Int) then ((some (([wrap64 (bt a0 2), wrap64 (bt a0 3)] : List Int) : List Int)).bind fun y232 => ((spec_InodeOk.f k (wrap64 (bt a0 0)) (wrap64 (bt a0 1)) y232).bind fun t236 => (if t236 = true then (some (wrap64 (bt a0 0), wrap64 (bt a0 1), y232, true)) else (some (0, 0, ([] : List Int), false))))) else (none)) else (none)) else (none)) else (none)) else (some (0, 0, ([] : List Int), false))
def spec_ReadInode.T3 : Bool × List (List Nat × List Nat) := (true, [([], []), ([0], [0]), ([1], [1]), ([], []), ([3], [3]), ([4], [4]), ([], []), ([6], [6]), ([7], [7]), ([], []), ([9], [9]), ([10], [10]), ([8, 11], [8, 11]), ([2, 5, 12], [2, 5, 12]), ([], []), ([14, 13, 0, 1, 2, 3, 4, 5, 6, 7, 8, 9, 10, 11, 12, 13, 14], [13, 14])])
def spec_ReadInode.B3 : List Nat := [0, 1, 3, 0, 8, 24, 0, 64, 192, 0, 512, 1536, 4032, 8191, 0, 32767]
theorem spec_ReadInode.tab3 : rtab .any (opsOf Try.f78 3) = spec_ReadInode.T3 := by kernel_rfl
theorem spec_ReadInode.bits3 : waitsOk spec_ReadInode.T3.2 spec_ReadInode.B3 = true := by kernel_rfl
set_option maxHeartbeats 8000000 in
set_option maxRecDepth 100000 in
theorem spec_ReadInode.calls (k : Nat) (a0 : ByteArray) (r1 : Int) (r2 : Int) (r3 : List Int) (r4 : Bool) (w : World) (h : spec_ReadInode.f k a0 = some (r1, r2, r3, r4)) :
  Calls Try.prog 78 #[.string a0] w fun e w' => ∃ v2_ : Value, e = .returned (.tuple #[.agg #[.int .i64 r1, .int .i64 r2, v2_], .bool r4]) ∧ Kd.R (Kd.int .i64) 3 w' w.heap.size (fun _ => True) v2_ r3 ∧ Below w.heap.size w w' := by
 have hu105 := Try.underlying105
 have HB := vA (Below.refl w.heap.size w)
 have H : (if (a0.size : Int) = 4 then (if 0 < (a0.size : Int) then (if 1 < (a0.size : Int) then (if 2 < (a0.size : Int) then (if 3 < (a0.size : Int) then ((some (([wrap64 (bt a0 2), wrap64 (bt a0 3)] : List Int) : List Int)).bind fun y232 => ((spec_InodeOk.f k (wrap64 (bt a0 0)) (wrap64 (bt a0 1)) y232).bind fun t236 => (if t236 = true then (some (wrap64 (bt a0 0), wrap64 (bt a0 1), y232, true)) else (some (0, 0, ([] : List Int), false))))) else (none)) else (none)) else (none)) else (none)) else (some (0, 0, ([] : List Int), false))) = some (r1, r2, r3, r4) := h
 clear h
 by_cases c2 : (a0.size : Int) = 4
 ·rw [if_pos c2] at H
  have c2b0 : ((a0.size : Int) == 4) = true := beq_iff_eq.mpr c2; have c2b1 : ((a0.size : Int) != 4) = false := bne_eq_false_iff_eq.mpr c2; clear c2
  by_cases c3 : 0 < (a0.size : Int)
  ·rw [if_pos c3] at H
   have c3b0 : decide (0 < (a0.size : Int)) = true := decide_eq_true c3
   have c3b1 : decide (0 < a0.size) = true := decide_eq_true (by omega)
   clear c3
   by_cases c5 : 1 < (a0.size : Int)
   ·rw [if_pos c5] at H
    have c5b0 : decide (1 < (a0.size : Int)) = true := decide_eq_true c5
    have c5b1 : decide (1 < a0.size) = true := decide_eq_true (by omega)
    clear c5
    by_cases c7 : 2 < (a0.size : Int)
    ·rw [if_pos c7] at H
     have c7b0 : decide (2 < (a0.size : Int)) = true := decide_eq_true c7
     have c7b1 : decide (2 < a0.size) = true := decide_eq_true (by omega)
     clear c7
     by_cases c9 : 3 < (a0.size : Int)
     ·rw [if_pos c9] at H
      have c9b0 : decide (3 < (a0.size : Int)) = true := decide_eq_true c9
      have c9b1 : decide (3 < a0.size) = true := decide_eq_true (by omega)
      clear c9; obtain ⟨y232, hy232⟩ : ∃ y_ : List Int, y_ = (([wrap64 (bt a0 2), wrap64 (bt a0 3)] : List Int)) := ⟨_, rfl⟩
      first | rw [Option.bind_some, ← hy232] at H | rw [← hy232] at H
      have Ny232 := vA hy232; clear hy232; replace H := Option.bind_eq_some_iff.mp H; obtain ⟨t236, A110, H⟩ := H; have A11 := vA A110; clear A110
      by_cases c12 : t236 = true
      ·subst c12
       rw [if_pos rfl] at H
       simp only [Option.some.injEq, Prod.mk.injEq] at H
       obtain ⟨rfl, rfl, rfl, rfl⟩ := H
       go_enter Try.func78, Try.ntmps78
       try go_wp2_with (first | ((with_reducible refine gate_dst (N := 2) rfl ?_); refine vx (N := 2) (cs := #[.int .i64 0, .int .i64 0, .slice none 0 0]) (t := 105) ?_; intro gb231 hg w13 hbox hb; have BK231 := vA (hbox); have GW231 := vA ((vg hg (qb HB.out))); have GE231 := GW231; replace HB := vbs HB hb; clear hb hbox hg))
       replace BK231 := vA (blk_drew BK231.out); replace HB := vA (below_drew1 HB.out)
       have p4 : 0 ≤ (0 : Int) := (by omega)
       have q4 : 0 < a0.size := (by have : (0 : Int) < (a0.size : Int) := qo; omega)
       have hx4 : ∀ h : 0 < a0.size, ((a0[0]'h).toNat : Int) = bt a0 0 := bt_at a0 0; clear p4; have qi4 : (0 < (a0.size : Int)) = True := eq_true qo; replace q4 := eq_true q4
       have p6 : 0 ≤ (1 : Int) := (by omega)
       have q6 : 1 < a0.size := (by have : (1 : Int) < (a0.size : Int) := qo; omega)
       have hx6 : ∀ h : 1 < a0.size, ((a0[1]'h).toNat : Int) = bt a0 1 := bt_at a0 1; clear p6; have qi6 : (1 < (a0.size : Int)) = True := eq_true qo; replace q6 := eq_true q6
       have p8 : 0 ≤ (2 : Int) := (by omega)
       have q8 : 2 < a0.size := (by have : (2 : Int) < (a0.size : Int) := qo; omega)
       have hx8 : ∀ h : 2 < a0.size, ((a0[2]'h).toNat : Int) = bt a0 2 := bt_at a0 2; clear p8; have qi8 : (2 < (a0.size : Int)) = True := eq_true qo; replace q8 := eq_true q8
       have p10 : 0 ≤ (3 : Int) := (by omega)
       have q10 : 3 < a0.size := (by have : (3 : Int) < (a0.size : Int) := qo; omega)
       have hx10 : ∀ h : 3 < a0.size, ((a0[3]'h).toNat : Int) = bt a0 3 := bt_at a0 3; clear p10; have qi10 : (3 < (a0.size : Int)) = True := eq_true qo; replace q10 := eq_true q10
       refine start_ (n := 16) (S := fun w' => True) (ds := []) #[false, false, false, false, false, false, false, false, false, false, false, false, false, false, false, false] (by kernel_rfl) rfl rfl trivial (fun hHeld => ?_); refine with_tabW spec_ReadInode.tab3 spec_ReadInode.bits3 (fun HT_ HW_ => ?_)
       generalize w13.drew = w14 at BK231 HB hHeld ⊢
       refine pure_ (i := 0) (N := some 9) (v := ?_) (a' := ?_) #[true, false, false, false, false, false, false, false, false, false, false, false, false, false, false, false] rfl rfl (any_of HT_.out (by kernel_rfl)) (fun _ _ _ h => h) (Or.inl ⟨by rfl, ?_⟩) ?_ ?_
       rotate_left
       ·intro w'
        go_simp
        with_reducible rfl
       rotate_left
       ·refine qp ?_
        rfl
       refine pure_ (i := 3) (N := some 12) (v := ?_) (a' := ?_) #[true, false, false, true, false, false, false, false, false, false, false, false, false, false, false, false] rfl rfl (any_of HT_.out (by kernel_rfl)) (fun _ _ _ h => h) (Or.inl ⟨by rfl, ?_⟩) ?_ ?_
       rotate_left
       ·intro w'
        go_simp
        with_reducible rfl
       rotate_left
       ·refine qp ?_
        rfl
       refine pure_ (i := 6) (N := some 15) (v := ?_) (a' := ?_) #[true, false, false, true, false, false, true, false, false, false, false, false, false, false, false, false] rfl rfl (any_of HT_.out (by kernel_rfl)) (fun _ _ _ h => h) (Or.inl ⟨by rfl, ?_⟩) ?_ ?_
       rotate_left
       ·intro w'
        go_simp
        with_reducible rfl
       rotate_left
       ·refine qp ?_
        rfl
       refine pure_ (i := 9) (N := some 18) (v := ?_) (a' := ?_) #[true, false, false, true, false, false, true, false, false, true, false, false, false, false, false, false] rfl rfl (any_of HT_.out (by kernel_rfl)) (fun _ _ _ h => h) (Or.inl ⟨by rfl, ?_⟩) ?_ ?_
       rotate_left
       ·intro w'
        go_simp
        with_reducible rfl
       rotate_left
       ·refine qp ?_
        rfl
       refine take_ (i := 1) (N := some 10) (v := ?_) (a' := ?_) #[true, true, false, true, false, false, true, false, false, true, false, false, false, false, false, false] rfl rfl (take_ofW HT_.out HW_.out (by kernel_rfl)) (fun _ _ _ h => h) (Or.inl ⟨by rfl, ?_⟩) hHeld ?_ ?_
       rotate_left
       ·intro w' _
        go_simp
        with_reducible rfl
       rotate_left
       ·refine qp ?_
        rfl
       refine pure_ (i := 2) (N := some 11) (v := ?_) (a' := ?_) #[true, true, true, true, false, false, true, false, false, true, false, false, false, false, false, false] rfl rfl (any_of HT_.out (by kernel_rfl)) (fun _ _ _ h => h) (Or.inl ⟨by rfl, ?_⟩) ?_ ?_
       rotate_left
       ·intro w'
        go_simp
        with_reducible rfl
       rotate_left
       ·refine qp ?_
        rfl
       refine take_ (i := 4) (N := some 13) (v := ?_) (a' := ?_) #[true, true, true, true, true, false, true, false, false, true, false, false, false, false, false, false] rfl rfl (take_ofW HT_.out HW_.out (by kernel_rfl)) (fun _ _ _ h => h) (Or.inl ⟨by rfl, ?_⟩) hHeld ?_ ?_
       rotate_left
       ·intro w' _
        go_simp
        with_reducible rfl
       rotate_left
       ·refine qp ?_
        rfl
       refine pure_ (i := 5) (N := some 14) (v := ?_) (a' := ?_) #[true, true, true, true, true, true, true, false, false, true, false, false, false, false, false, false] rfl rfl (any_of HT_.out (by kernel_rfl)) (fun _ _ _ h => h) (Or.inl ⟨by rfl, ?_⟩) ?_ ?_
       rotate_left
       ·intro w'
        go_simp
        with_reducible rfl
       rotate_left
       ·refine qp ?_
        rfl
       refine take_ (i := 7) (N := some 16) (v := ?_) (a' := ?_) #[true, true, true, true, true, true, true, true, false, true, false, false, false, false, false, false] rfl rfl (take_ofW HT_.out HW_.out (by kernel_rfl)) (fun _ _ _ h => h) (Or.inl ⟨by rfl, ?_⟩) hHeld ?_ ?_
       rotate_left
       ·intro w' _
        go_simp
        with_reducible rfl
       rotate_left
       ·refine qp ?_
        rfl
       refine pure_ (i := 8) (N := some 17) (v := ?_) (a' := ?_) #[true, true, true, true, true, true, true, true, true, true, false, false, false, false, false, false] rfl rfl (any_of HT_.out (by kernel_rfl)) (fun _ _ _ h => h) (Or.inl ⟨by rfl, ?_⟩) ?_ ?_
       rotate_left
       ·intro w'
        go_simp
        with_reducible rfl
       rotate_left
       ·refine qp ?_
        rfl
       refine take_ (i := 10) (N := some 19) (v := ?_) (a' := ?_) #[true, true, true, true, true, true, true, true, true, true, true, false, false, false, false, false] rfl rfl (take_ofW HT_.out HW_.out (by kernel_rfl)) (fun _ _ _ h => h) (Or.inl ⟨by rfl, ?_⟩) hHeld ?_ ?_
       rotate_left
       ·intro w' _
        go_simp
        with_reducible rfl
       rotate_left
       ·refine qp ?_
        rfl
       refine pure_ (i := 11) (N := some 20) (v := ?_) (a' := ?_) #[true, true, true, true, true, true, true, true, true, true, true, true, false, false, false, false] rfl rfl (any_of HT_.out (by kernel_rfl)) (fun _ _ _ h => h) (Or.inl ⟨by rfl, ?_⟩) ?_ ?_
       rotate_left
       ·intro w'
        go_simp
        with_reducible rfl
       rotate_left
       ·refine qp ?_
        rfl
       refine join_ (σ := Value × Nat) 1 #[true, true, true, true, true, true, true, true, true, true, true, true, true, true, true, false] (fun s_ => [(21, s_.1), (4, .pointer (some ⟨s_.2, 0, none⟩)), (22, .agg #[.int .i64 (wrap64 (bt a0 0)), .int .i64 (wrap64 (bt a0 1)), s_.1])]) (fun s_ w' => (Kd.R (Kd.int .i64) 3 w' w.heap.size (fun _ => True) s_.1 y232) ∧ (w'.heap[gb231]? = some (.cells #[.int .i64 0, .int .i64 0, .slice none 0 0] 105 (0, 0))) ∧ (w'.heap[s_.2]? = some (.cells #[.int .i64 0, .int .i64 0, .slice none 0 0] 105 (0, 0))) ∧ (w.heap.size ≤ s_.2) ∧ (w.heap.size ≤ s_.2) ∧ (gb231 ≠ s_.2) ∧ (s_.2 ≠ gb231) ∧ (Below w.heap.size w w')) ?_ ?_
       rotate_left
       ·intro hCont
        refine two_ (i := 12) (j := 14) (Ni := some 21) (Nj := some 4) #[true, true, true, true, true, true, true, true, true, true, true, true, true, false, false, false] #[true, true, true, true, true, true, true, true, true, true, true, true, false, false, true, false] rfl rfl rfl rfl (two_of HT_.out (by kernel_rfl)) (by decide) (by decide) (fun K hK => ?_) (fun K hK => ?_)
        ·skip
         refine Kd.R_lit_step (Kd.int .i64) _ 3 ?hg (N := 21) ?hd (xs := ([wrap64 (bt a0 2), wrap64 (bt a0 3)] : List Int)) (inner := [.int .i64 (wrap64 (bt a0 2)), .int .i64 (wrap64 (bt a0 3))]) (ok := fun _ => True) (okp := fun _ => True) ?hr ?hp (fun _ hk => hk) trivial (Below.refl _ _) (Nat.le_refl _) (by simp) ?_; (case hd => rfl); (case hg => rfl); (case hr => first | (go_simp; done) | (go_simp; rfl)); (case hp => exact (Reps.one (show Kd.M (Kd.int .i64) _ _ _ (wrap64 (bt a0 2)) [.int .i64 (wrap64 (bt a0 2))] from rfl) (Reps.one (show Kd.M (Kd.int .i64) _ _ _ (wrap64 (bt a0 3)) [.int .i64 (wrap64 (bt a0 3))] from rfl) (Reps.none _ _))))
         intro v233 w15 ho16 hb hg_ hnew_; clear hg_ hnew_
         (first | rw [← Ny232.out] at ho16 | (simp only [Int.reduceToNat] at ho16; rw [← Ny232.out] at ho16))
         have HO234 := vA (Kd.R_lower ho16 (below_size (vh HB))); replace BK231 := vw BK231 hb; replace HB := vbs HB hb; clear hb ho16; obtain ⟨Ao17, co17, eo17⟩ := Kd.R_slice HO234.out
         (first | subst eo17 | (injection eo17 with f1_ f2_ f3_; have f4_ := f1_.symm; have f5_ := f3_.symm; clear f1_ f2_ f3_; subst f4_; subst f5_))
         refine hK.out _ _ trivial (fun hHeld => ?_)
         clear hK K; refine norm_ (a' := ?_) ?_ ?_; rotate_left
         ·show Act.put _ (some 21) _ = _
          refine qp ?_
          rfl
         refine pure_ (i := 13) (N := some 22) (v := ?_) (a' := ?_) #[true, true, true, true, true, true, true, true, true, true, true, true, true, true, false, false] rfl rfl (any_of HT_.out (by kernel_rfl)) (fun _ _ _ h => h) (Or.inl ⟨by rfl, ?_⟩) ?_ ?_
         rotate_left
         ·intro w'
          go_simp
          with_reducible rfl
         rotate_left
         ·refine qp ?_
          rfl
         refine one_ (i := 14) (N := some 4) #[true, true, true, true, true, true, true, true, true, true, true, true, true, true, true, false] rfl rfl (one_of HT_.out (by kernel_rfl)) (by decide) (fun K hK => ?_)
         refine box_step ?hg (N := 4) ?hd (cs := #[.int .i64 0, .int .i64 0, .slice none 0 0]) (t := 105) ?hr ?_; (case hd => rfl); (case hg => rfl); (case hr => first | (go_simp; done) | (go_simp; rfl))
         intro gb235 hg w18 hbox hb; replace HO234 := vrb HO234 hb; have BK235 := vA (hbox); have GW235 := vA ((vg hg (vh HB))); have GE235 := GW235; replace HB := vbs HB hb; have NB231_235 := vn hg BK231; have NB235_231 := vN hg BK231; replace BK231 := vw BK231 hb; clear hb hbox hg
         refine hK.out _ _ trivial (fun hHeld => ?_)
         clear hK K; refine norm_ (a' := ?_) ?_ ?_; rotate_left
         ·show Act.put _ (some 4) _ = _
          refine qp ?_
          rfl
         exact norm_ (by simp only [putAll, Act.put, List.setIfInBounds_toArray, List.set_cons_zero, List.set_cons_succ]) (hCont (.slice Ao17 y232.length co17, gb235) _ ⟨(qr HO234.out), (qk BK231.out), (qk BK235.out), GW235.out, GE235.out, NB231_235.out, NB235_231.out, (vh HB)⟩)
        ·skip
         refine box_step ?hg (N := 4) ?hd (cs := #[.int .i64 0, .int .i64 0, .slice none 0 0]) (t := 105) ?hr ?_; (case hd => rfl); (case hg => rfl); (case hr => first | (go_simp; done) | (go_simp; rfl))
         intro gb235 hg w15 hbox hb; have BK235 := vA (hbox); have GW235 := vA ((vg hg (vh HB))); have GE235 := GW235; replace HB := vbs HB hb; have NB231_235 := vn hg BK231; have NB235_231 := vN hg BK231; replace BK231 := vw BK231 hb; clear hb hbox hg
         refine hK.out _ _ trivial (fun hHeld => ?_)
         clear hK K; refine norm_ (a' := ?_) ?_ ?_; rotate_left
         ·show Act.put _ (some 4) _ = _
          refine qp ?_
          rfl
         refine one_ (i := 12) (N := some 21) #[true, true, true, true, true, true, true, true, true, true, true, true, true, false, true, false] rfl rfl (one_of HT_.out (by kernel_rfl)) (by decide) (fun K hK => ?_)
         refine Kd.R_lit_step (Kd.int .i64) _ 3 ?hg (N := 21) ?hd (xs := ([wrap64 (bt a0 2), wrap64 (bt a0 3)] : List Int)) (inner := [.int .i64 (wrap64 (bt a0 2)), .int .i64 (wrap64 (bt a0 3))]) (ok := fun _ => True) (okp := fun _ => True) ?hr ?hp (fun _ hk => hk) trivial (Below.refl _ _) (Nat.le_refl _) (by simp) ?_; (case hd => rfl); (case hg => rfl); (case hr => first | (go_simp; done) | (go_simp; rfl)); (case hp => exact (Reps.one (show Kd.M (Kd.int .i64) _ _ _ (wrap64 (bt a0 2)) [.int .i64 (wrap64 (bt a0 2))] from rfl) (Reps.one (show Kd.M (Kd.int .i64) _ _ _ (wrap64 (bt a0 3)) [.int .i64 (wrap64 (bt a0 3))] from rfl) (Reps.none _ _))))
         intro v233 w16 ho17 hb hg_ hnew_; clear hg_ hnew_
         (first | rw [← Ny232.out] at ho17 | (simp only [Int.reduceToNat] at ho17; rw [← Ny232.out] at ho17))
         have HO234 := vA (Kd.R_lower ho17 (below_size (vh HB))); replace BK231 := vw BK231 hb; replace BK235 := vw BK235 hb; replace HB := vbs HB hb; clear hb ho17; obtain ⟨Ao18, co18, eo18⟩ := Kd.R_slice HO234.out
         (first | subst eo18 | (injection eo18 with f1_ f2_ f3_; have f4_ := f1_.symm; have f5_ := f3_.symm; clear f1_ f2_ f3_; subst f4_; subst f5_))
         refine hK.out _ _ trivial (fun hHeld => ?_)
         clear hK K; refine norm_ (a' := ?_) ?_ ?_; rotate_left
         ·show Act.put _ (some 21) _ = _
          refine qp ?_
          rfl
         refine pure_ (i := 13) (N := some 22) (v := ?_) (a' := ?_) #[true, true, true, true, true, true, true, true, true, true, true, true, true, true, true, false] rfl rfl (any_of HT_.out (by kernel_rfl)) (fun _ _ _ h => h) (Or.inl ⟨by rfl, ?_⟩) ?_ ?_
         rotate_left
         ·intro w'
          go_simp
          with_reducible rfl
         rotate_left
         ·refine qp ?_
          rfl
         exact norm_ (by simp only [putAll, Act.put, List.setIfInBounds_toArray, List.set_cons_zero, List.set_cons_succ]) (hCont (.slice Ao18 y232.length co18, gb235) _ ⟨(qr HO234.out), (qk BK231.out), (qk BK235.out), GW235.out, GE235.out, NB231_235.out, NB235_231.out, (vh HB)⟩)
       rintro ⟨v233, gb235⟩ w19 ⟨h0_, h1_, h2_, h3_, h4_, h5_, h6_, h7_⟩
       have HO234 : Aside0 (Kd.R (Kd.int .i64) 3 w19 w.heap.size (fun _ => True) v233 y232) := ⟨h0_⟩
       replace BK231 : Aside0 (w19.heap[gb231]? = some (.cells #[.int .i64 0, .int .i64 0, .slice none 0 0] 105 (0, 0))) := ⟨h1_⟩; have BK235 : Aside0 (w19.heap[gb235]? = some (.cells #[.int .i64 0, .int .i64 0, .slice none 0 0] 105 (0, 0))) := ⟨h2_⟩; have GW235 : Aside0 (w.heap.size ≤ gb235) := ⟨h3_⟩; have GE235 : Aside0 (w.heap.size ≤ gb235) := ⟨h4_⟩; have NB231_235 : Aside0 (gb231 ≠ gb235) := ⟨h5_⟩; have NB235_231 : Aside0 (gb235 ≠ gb231) := ⟨h6_⟩; replace HB : Aside0 (Below w.heap.size w w19) := ⟨h7_⟩; clear h0_ h1_ h2_ h3_ h4_ h5_ h6_ h7_; have hHeld := trivial; obtain ⟨Ao20, co20, eo20⟩ := Kd.R_slice HO234.out
       (first | subst eo20 | (injection eo20 with f1_ f2_ f3_; have f4_ := f1_.symm; have f5_ := f3_.symm; clear f1_ f2_ f3_; subst f4_; subst f5_))
       refine norm_ (a' := ?_) ?_ ?_; rotate_left
       ·simp only [putAll, Act.put, List.setIfInBounds_toArray, List.set_cons_zero, List.set_cons_succ]
        rfl
       refine one_ (i := 15) (N := none) #[true, true, true, true, true, true, true, true, true, true, true, true, true, true, true, true] rfl rfl (one_of HT_.out (by kernel_rfl)) (by decide) (fun K hK => ?_)
       have hs21 : w19.cell? ⟨gb235, 0, none⟩ = some (.int .i64 0) := (blk_cell BK235.out 0).trans rfl; have hfs21 := blk_frozen BK235.out 0; have hns21_0 := NB231_235.out; have hms21_0 := NB235_231.out; have hs22 : w19.cell? ⟨gb235, 1, none⟩ = some (.int .i64 0) := (blk_cell BK235.out 1).trans rfl; have hfs22 := blk_frozen BK235.out 1; have hns22_0 := NB231_235.out; have hms22_0 := NB235_231.out; have hs23 : w19.cell? ⟨gb235, 2, none⟩ = some (.slice none 0 0) := (blk_cell BK235.out 2).trans rfl; have hfs23 := blk_frozen BK235.out 2; have hns23_0 := NB231_235.out; have hms23_0 := NB235_231.out
       refine skip_ (w1 := ?_) (by rfl) rfl ?_ ?_
       rotate_left
       ·go_simp
        rfl
       refine hK.out _ _ trivial (fun hHeld => ?_)
       clear hK K
       refine done_ (done_of HT_.out (by kernel_rfl)) ?_
       have hnb24 := NB235_231.out; have hnc24 := NB231_235.out; obtain ⟨hcz25_0, hcz25_1, hcz25_2⟩ := v3c BK235.out; obtain ⟨hfz25_0, hfz25_1, hfz25_2⟩ := v3f BK235.out
       try go_wp2_with (first | ((with_reducible refine gate_callee (f := 118) rfl ?_); refine goesL_ (some 24) rfl rfl Try.func118 (by kernel_rfl) rfl #[.agg #[.int .i64 (wrap64 (bt a0 0)), .int .i64 (wrap64 (bt a0 1)), .slice Ao20 y232.length co20]] rfl qm ?_; (with_reducible refine (spec_InodeOk.calls k (wrap64 (bt a0 0)) (wrap64 (bt a0 1)) _ _ y232 true _ ?side1 ?side2 A11.out).mono ?_); (case side1 => refine (Kd.R_reads' (e := 3) (base := w.heap.size) (ok := fun k_ => True) (n := y232.length) (c := co20) ?_).2.2; exact (vr HO234 BK235)); (case side2 => exact (Kd.R_reads' HO234.out).2.1); rintro e w26 ⟨rfl, hb⟩; refine ⟨_, rfl, ?_⟩; replace HO234 := vA (Kd.R_below (vr HO234 BK235) hb); replace BK231 := vB BK231 NB231_235 hb; replace BK235 := vA (blk_below (g := gb235) (o := .cells #[.int .i64 (wrap64 (bt a0 0)), .int .i64 (wrap64 (bt a0 1)), .slice Ao20 y232.length co20] 105 (0, 0)) (blk_put (blk_put (blk_put BK235.out 0 _ rfl) 1 _ rfl) 2 _ rfl) hb); replace HB := vbs HB hb; clear hb; obtain ⟨hcz27_0, hcz27_1, hcz27_2⟩ := v3c BK235.out; obtain ⟨hfz27_0, hfz27_1, hfz27_2⟩ := v3f BK235.out; obtain ⟨hcz28_0, hcz28_1, hcz28_2⟩ := v3c BK231.out; obtain ⟨hfz28_0, hfz28_1, hfz28_2⟩ := v3f BK231.out))
       refine bodyPost_ret (results_ct rfl _ _ gb231 105 #[.int .i64 (wrap64 (bt a0 0)), .int .i64 (wrap64 (bt a0 1)), .slice Ao20 y232.length co20] (0, 0) _ rfl (blk_put (blk_put (blk_put BK231.out 0 _ rfl) 1 _ rfl) 2 _ rfl) Try.underlying105 rfl (by kernel_rfl)) rfl ?_
       exact ⟨_, qe, by refine qR ?_; exact Kd.R_mono (Kd.R_far (p := ⟨gb231, 2, none⟩) (Kd.R_far (p := ⟨gb231, 1, none⟩) (Kd.R_far (p := ⟨gb231, 0, none⟩) (Kd.R_types HO234.out BK231.out (by decide)) (fun _ hk => hk.2) (.int .i64 (wrap64 (bt a0 0)))) (fun _ hk => hk.2) (.int .i64 (wrap64 (bt a0 1)))) (fun _ hk => hk.2) (.slice Ao20 y232.length co20)) (fun _ hk => trivial), qb2 HB.out GE231.out GE235.out⟩
      ·replace c12 := Bool.eq_false_iff.mpr c12
       subst c12
       rw [if_neg (show ¬ (false = true) by decide)] at H
       simp only [Option.some.injEq, Prod.mk.injEq] at H
       obtain ⟨rfl, rfl, rfl, rfl⟩ := H
       go_enter Try.func78, Try.ntmps78
       try go_wp2_with (first | ((with_reducible refine gate_dst (N := 2) rfl ?_); refine vx (N := 2) (cs := #[.int .i64 0, .int .i64 0, .slice none 0 0]) (t := 105) ?_; intro gb231 hg w29 hbox hb; have BK231 := vA (hbox); have GW231 := vA ((vg hg (qb HB.out))); have GE231 := GW231; replace HB := vbs HB hb; clear hb hbox hg))
       replace BK231 := vA (blk_drew BK231.out); replace HB := vA (below_drew1 HB.out)
       have p4 : 0 ≤ (0 : Int) := (by omega)
       have q4 : 0 < a0.size := (by have : (0 : Int) < (a0.size : Int) := qo; omega)
       have hx4 : ∀ h : 0 < a0.size, ((a0[0]'h).toNat : Int) = bt a0 0 := bt_at a0 0; clear p4; have qi4 : (0 < (a0.size : Int)) = True := eq_true qo; replace q4 := eq_true q4
       have p6 : 0 ≤ (1 : Int) := (by omega)
       have q6 : 1 < a0.size := (by have : (1 : Int) < (a0.size : Int) := qo; omega)
       have hx6 : ∀ h : 1 < a0.size, ((a0[1]'h).toNat : Int) = bt a0 1 := bt_at a0 1; clear p6; have qi6 : (1 < (a0.size : Int)) = True := eq_true qo; replace q6 := eq_true q6
       have p8 : 0 ≤ (2 : Int) := (by omega)
       have q8 : 2 < a0.size := (by have : (2 : Int) < (a0.size : Int) := qo; omega)
       have hx8 : ∀ h : 2 < a0.size, ((a0[2]'h).toNat : Int) = bt a0 2 := bt_at a0 2; clear p8; have qi8 : (2 < (a0.size : Int)) = True := eq_true qo; replace q8 := eq_true q8
       have p10 : 0 ≤ (3 : Int) := (by omega)
       have q10 : 3 < a0.size := (by have : (3 : Int) < (a0.size : Int) := qo; omega)
       have hx10 : ∀ h : 3 < a0.size, ((a0[3]'h).toNat : Int) = bt a0 3 := bt_at a0 3; clear p10; have qi10 : (3 < (a0.size : Int)) = True := eq_true qo; replace q10 := eq_true q10
       refine start_ (n := 16) (S := fun w' => True) (ds := []) #[false, false, false, false, false, false, false, false, false, false, false, false, false, false, false, false] (by kernel_rfl) rfl rfl trivial (fun hHeld => ?_); refine with_tabW spec_ReadInode.tab3 spec_ReadInode.bits3 (fun HT_ HW_ => ?_)
       generalize w29.drew = w30 at BK231 HB hHeld ⊢
       refine pure_ (i := 0) (N := some 9) (v := ?_) (a' := ?_) #[true, false, false, false, false, false, false, false, false, false, false, false, false, false, false, false] rfl rfl (any_of HT_.out (by kernel_rfl)) (fun _ _ _ h => h) (Or.inl ⟨by rfl, ?_⟩) ?_ ?_
       rotate_left
       ·intro w'
        go_simp
        with_reducible rfl
       rotate_left
       ·refine qp ?_
        rfl
       refine pure_ (i := 3) (N := some 12) (v := ?_) (a' := ?_) #[true, false, false, true, false, false, false, false, false, false, false, false, false, false, false, false] rfl rfl (any_of HT_.out (by kernel_rfl)) (fun _ _ _ h => h) (Or.inl ⟨by rfl, ?_⟩) ?_ ?_
       rotate_left
       ·intro w'
        go_simp
        with_reducible rfl
       rotate_left
       ·refine qp ?_
        rfl
       refine pure_ (i := 6) (N := some 15) (v := ?_) (a' := ?_) #[true, false, false, true, false, false, true, false, false, false, false, false, false, false, false, false] rfl rfl (any_of HT_.out (by kernel_rfl)) (fun _ _ _ h => h) (Or.inl ⟨by rfl, ?_⟩) ?_ ?_
       rotate_left
       ·intro w'
        go_simp
        with_reducible rfl
       rotate_left
       ·refine qp ?_
        rfl
       refine pure_ (i := 9) (N := some 18) (v := ?_) (a' := ?_) #[true, false, false, true, false, false, true, false, false, true, false, false, false, false, false, false] rfl rfl (any_of HT_.out (by kernel_rfl)) (fun _ _ _ h => h) (Or.inl ⟨by rfl, ?_⟩) ?_ ?_
       rotate_left
       ·intro w'
        go_simp
        with_reducible rfl
       rotate_left
       ·refine qp ?_
        rfl
       refine take_ (i := 1) (N := some 10) (v := ?_) (a' := ?_) #[true, true, false, true, false, false, true, false, false, true, false, false, false, false, false, false] rfl rfl (take_ofW HT_.out HW_.out (by kernel_rfl)) (fun _ _ _ h => h) (Or.inl ⟨by rfl, ?_⟩) hHeld ?_ ?_
       rotate_left
       ·intro w' _
        go_simp
        with_reducible rfl
       rotate_left
       ·refine qp ?_
        rfl
       refine pure_ (i := 2) (N := some 11) (v := ?_) (a' := ?_) #[true, true, true, true, false, false, true, false, false, true, false, false, false, false, false, false] rfl rfl (any_of HT_.out (by kernel_rfl)) (fun _ _ _ h => h) (Or.inl ⟨by rfl, ?_⟩) ?_ ?_
       rotate_left
       ·intro w'
        go_simp
        with_reducible rfl
       rotate_left
       ·refine qp ?_
        rfl
       refine take_ (i := 4) (N := some 13) (v := ?_) (a' := ?_) #[true, true, true, true, true, false, true, false, false, true, false, false, false, false, false, false] rfl rfl (take_ofW HT_.out HW_.out (by kernel_rfl)) (fun _ _ _ h => h) (Or.inl ⟨by rfl, ?_⟩) hHeld ?_ ?_
       rotate_left
       ·intro w' _
        go_simp
        with_reducible rfl
       rotate_left
       ·refine qp ?_
        rfl
       refine pure_ (i := 5) (N := some 14) (v := ?_) (a' := ?_) #[true, true, true, true, true, true, true, false, false, true, false, false, false, false, false, false] rfl rfl (any_of HT_.out (by kernel_rfl)) (fun _ _ _ h => h) (Or.inl ⟨by rfl, ?_⟩) ?_ ?_
       rotate_left
       ·intro w'
        go_simp
        with_reducible rfl
       rotate_left
       ·refine qp ?_
        rfl
       refine take_ (i := 7) (N := some 16) (v := ?_) (a' := ?_) #[true, true, true, true, true, true, true, true, false, true, false, false, false, false, false, false] rfl rfl (take_ofW HT_.out HW_.out (by kernel_rfl)) (fun _ _ _ h => h) (Or.inl ⟨by rfl, ?_⟩) hHeld ?_ ?_
       rotate_left
       ·intro w' _
        go_simp
        with_reducible rfl
       rotate_left
       ·refine qp ?_
        rfl
       refine pure_ (i := 8) (N := some 17) (v := ?_) (a' := ?_) #[true, true, true, true, true, true, true, true, true, true, false, false, false, false, false, false] rfl rfl (any_of HT_.out (by kernel_rfl)) (fun _ _ _ h => h) (Or.inl ⟨by rfl, ?_⟩) ?_ ?_
       rotate_left
       ·intro w'
        go_simp
        with_reducible rfl
       rotate_left
       ·refine qp ?_
        rfl
       refine take_ (i := 10) (N := some 19) (v := ?_) (a' := ?_) #[true, true, true, true, true, true, true, true, true, true, true, false, false, false, false, false] rfl rfl (take_ofW HT_.out HW_.out (by kernel_rfl)) (fun _ _ _ h => h) (Or.inl ⟨by rfl, ?_⟩) hHeld ?_ ?_
       rotate_left
       ·intro w' _
        go_simp
        with_reducible rfl
       rotate_left
       ·refine qp ?_
        rfl
       refine pure_ (i := 11) (N := some 20) (v := ?_) (a' := ?_) #[true, true, true, true, true, true, true, true, true, true, true, true, false, false, false, false] rfl rfl (any_of HT_.out (by kernel_rfl)) (fun _ _ _ h => h) (Or.inl ⟨by rfl, ?_⟩) ?_ ?_
       rotate_left
       ·intro w'
        go_simp
        with_reducible rfl
       rotate_left
       ·refine qp ?_
        rfl
       refine join_ (σ := Value × Nat) 1 #[true, true, true, true, true, true, true, true, true, true, true, true, true, true, true, false] (fun s_ => [(21, s_.1), (4, .pointer (some ⟨s_.2, 0, none⟩)), (22, .agg #[.int .i64 (wrap64 (bt a0 0)), .int .i64 (wrap64 (bt a0 1)), s_.1])]) (fun s_ w' => (Kd.R (Kd.int .i64) 3 w' w.heap.size (fun _ => True) s_.1 y232) ∧ (w'.heap[gb231]? = some (.cells #[.int .i64 0, .int .i64 0, .slice none 0 0] 105 (0, 0))) ∧ (w'.heap[s_.2]? = some (.cells #[.int .i64 0, .int .i64 0, .slice none 0 0] 105 (0, 0))) ∧ (w.heap.size ≤ s_.2) ∧ (w.heap.size ≤ s_.2) ∧ (gb231 ≠ s_.2) ∧ (s_.2 ≠ gb231) ∧ (Below w.heap.size w w')) ?_ ?_
       rotate_left
       ·intro hCont
        refine two_ (i := 12) (j := 14) (Ni := some 21) (Nj := some 4) #[true, true, true, true, true, true, true, true, true, true, true, true, true, false, false, false] #[true, true, true, true, true, true, true, true, true, true, true, true, false, false, true, false] rfl rfl rfl rfl (two_of HT_.out (by kernel_rfl)) (by decide) (by decide) (fun K hK => ?_) (fun K hK => ?_)
        ·skip
         refine Kd.R_lit_step (Kd.int .i64) _ 3 ?hg (N := 21) ?hd (xs := ([wrap64 (bt a0 2), wrap64 (bt a0 3)] : List Int)) (inner := [.int .i64 (wrap64 (bt a0 2)), .int .i64 (wrap64 (bt a0 3))]) (ok := fun _ => True) (okp := fun _ => True) ?hr ?hp (fun _ hk => hk) trivial (Below.refl _ _) (Nat.le_refl _) (by simp) ?_; (case hd => rfl); (case hg => rfl); (case hr => first | (go_simp; done) | (go_simp; rfl)); (case hp => exact (Reps.one (show Kd.M (Kd.int .i64) _ _ _ (wrap64 (bt a0 2)) [.int .i64 (wrap64 (bt a0 2))] from rfl) (Reps.one (show Kd.M (Kd.int .i64) _ _ _ (wrap64 (bt a0 3)) [.int .i64 (wrap64 (bt a0 3))] from rfl) (Reps.none _ _))))
         intro v233 w31 ho32 hb hg_ hnew_; clear hg_ hnew_
         (first | rw [← Ny232.out] at ho32 | (simp only [Int.reduceToNat] at ho32; rw [← Ny232.out] at ho32))
         have HO234 := vA (Kd.R_lower ho32 (below_size (vh HB))); replace BK231 := vw BK231 hb; replace HB := vbs HB hb; clear hb ho32; obtain ⟨Ao33, co33, eo33⟩ := Kd.R_slice HO234.out
         (first | subst eo33 | (injection eo33 with f1_ f2_ f3_; have f4_ := f1_.symm; have f5_ := f3_.symm; clear f1_ f2_ f3_; subst f4_; subst f5_))
         refine hK.out _ _ trivial (fun hHeld => ?_)
         clear hK K; refine norm_ (a' := ?_) ?_ ?_; rotate_left
         ·show Act.put _ (some 21) _ = _
          refine qp ?_
          rfl
         refine pure_ (i := 13) (N := some 22) (v := ?_) (a' := ?_) #[true, true, true, true, true, true, true, true, true, true, true, true, true, true, false, false] rfl rfl (any_of HT_.out (by kernel_rfl)) (fun _ _ _ h => h) (Or.inl ⟨by rfl, ?_⟩) ?_ ?_
         rotate_left
         ·intro w'
          go_simp
          with_reducible rfl
         rotate_left
         ·refine qp ?_
          rfl
         refine one_ (i := 14) (N := some 4) #[true, true, true, true, true, true, true, true, true, true, true, true, true, true, true, false] rfl rfl (one_of HT_.out (by kernel_rfl)) (by decide) (fun K hK => ?_)
         refine box_step ?hg (N := 4) ?hd (cs := #[.int .i64 0, .int .i64 0, .slice none 0 0]) (t := 105) ?hr ?_; (case hd => rfl); (case hg => rfl); (case hr => first | (go_simp; done) | (go_simp; rfl))
         intro gb235 hg w34 hbox hb; replace HO234 := vrb HO234 hb; have BK235 := vA (hbox); have GW235 := vA ((vg hg (vh HB))); have GE235 := GW235; replace HB := vbs HB hb; have NB231_235 := vn hg BK231; have NB235_231 := vN hg BK231; replace BK231 := vw BK231 hb; clear hb hbox hg
         refine hK.out _ _ trivial (fun hHeld => ?_)
         clear hK K; refine norm_ (a' := ?_) ?_ ?_; rotate_left
         ·show Act.put _ (some 4) _ = _
          refine qp ?_
          rfl
         exact norm_ (by simp only [putAll, Act.put, List.setIfInBounds_toArray, List.set_cons_zero, List.set_cons_succ]) (hCont (.slice Ao33 y232.length co33, gb235) _ ⟨(qr HO234.out), (qk BK231.out), (qk BK235.out), GW235.out, GE235.out, NB231_235.out, NB235_231.out, (vh HB)⟩)
        ·skip
         refine box_step ?hg (N := 4) ?hd (cs := #[.int .i64 0, .int .i64 0, .slice none 0 0]) (t := 105) ?hr ?_; (case hd => rfl); (case hg => rfl); (case hr => first | (go_simp; done) | (go_simp; rfl))
         intro gb235 hg w31 hbox hb; have BK235 := vA (hbox); have GW235 := vA ((vg hg (vh HB))); have GE235 := GW235; replace HB := vbs HB hb; have NB231_235 := vn hg BK231; have NB235_231 := vN hg BK231; replace BK231 := vw BK231 hb; clear hb hbox hg
         refine hK.out _ _ trivial (fun hHeld => ?_)
         clear hK K; refine norm_ (a' := ?_) ?_ ?_; rotate_left
         ·show Act.put _ (some 4) _ = _
          refine qp ?_
          rfl
         refine one_ (i := 12) (N := some 21) #[true, true, true, true, true, true, true, true, true, true, true, true, true, false, true, false] rfl rfl (one_of HT_.out (by kernel_rfl)) (by decide) (fun K hK => ?_)
         refine Kd.R_lit_step (Kd.int .i64) _ 3 ?hg (N := 21) ?hd (xs := ([wrap64 (bt a0 2), wrap64 (bt a0 3)] : List Int)) (inner := [.int .i64 (wrap64 (bt a0 2)), .int .i64 (wrap64 (bt a0 3))]) (ok := fun _ => True) (okp := fun _ => True) ?hr ?hp (fun _ hk => hk) trivial (Below.refl _ _) (Nat.le_refl _) (by simp) ?_; (case hd => rfl); (case hg => rfl); (case hr => first | (go_simp; done) | (go_simp; rfl)); (case hp => exact (Reps.one (show Kd.M (Kd.int .i64) _ _ _ (wrap64 (bt a0 2)) [.int .i64 (wrap64 (bt a0 2))] from rfl) (Reps.one (show Kd.M (Kd.int .i64) _ _ _ (wrap64 (bt a0 3)) [.int .i64 (wrap64 (bt a0 3))] from rfl) (Reps.none _ _))))
         intro v233 w32 ho33 hb hg_ hnew_; clear hg_ hnew_
         (first | rw [← Ny232.out] at ho33 | (simp only [Int.reduceToNat] at ho33; rw [← Ny232.out] at ho33))
         have HO234 := vA (Kd.R_lower ho33 (below_size (vh HB))); replace BK231 := vw BK231 hb; replace BK235 := vw BK235 hb; replace HB := vbs HB hb; clear hb ho33; obtain ⟨Ao34, co34, eo34⟩ := Kd.R_slice HO234.out
         (first | subst eo34 | (injection eo34 with f1_ f2_ f3_; have f4_ := f1_.symm; have f5_ := f3_.symm; clear f1_ f2_ f3_; subst f4_; subst f5_))
         refine hK.out _ _ trivial (fun hHeld => ?_)
         clear hK K; refine norm_ (a' := ?_) ?_ ?_; rotate_left
         ·show Act.put _ (some 21) _ = _
          refine qp ?_
          rfl
         refine pure_ (i := 13) (N := some 22) (v := ?_) (a' := ?_) #[true, true, true, true, true, true, true, true, true, true, true, true, true, true, true, false] rfl rfl (any_of HT_.out (by kernel_rfl)) (fun _ _ _ h => h) (Or.inl ⟨by rfl, ?_⟩) ?_ ?_
         rotate_left
         ·intro w'
          go_simp
          with_reducible rfl
         rotate_left
         ·refine qp ?_
          rfl
         exact norm_ (by simp only [putAll, Act.put, List.setIfInBounds_toArray, List.set_cons_zero, List.set_cons_succ]) (hCont (.slice Ao34 y232.length co34, gb235) _ ⟨(qr HO234.out), (qk BK231.out), (qk BK235.out), GW235.out, GE235.out, NB231_235.out, NB235_231.out, (vh HB)⟩)
       rintro ⟨v233, gb235⟩ w35 ⟨h0_, h1_, h2_, h3_, h4_, h5_, h6_, h7_⟩
       have HO234 : Aside0 (Kd.R (Kd.int .i64) 3 w35 w.heap.size (fun _ => True) v233 y232) := ⟨h0_⟩
       replace BK231 : Aside0 (w35.heap[gb231]? = some (.cells #[.int .i64 0, .int .i64 0, .slice none 0 0] 105 (0, 0))) := ⟨h1_⟩; have BK235 : Aside0 (w35.heap[gb235]? = some (.cells #[.int .i64 0, .int .i64 0, .slice none 0 0] 105 (0, 0))) := ⟨h2_⟩; have GW235 : Aside0 (w.heap.size ≤ gb235) := ⟨h3_⟩; have GE235 : Aside0 (w.heap.size ≤ gb235) := ⟨h4_⟩; have NB231_235 : Aside0 (gb231 ≠ gb235) := ⟨h5_⟩; have NB235_231 : Aside0 (gb235 ≠ gb231) := ⟨h6_⟩; replace HB : Aside0 (Below w.heap.size w w35) := ⟨h7_⟩; clear h0_ h1_ h2_ h3_ h4_ h5_ h6_ h7_; have hHeld := trivial; obtain ⟨Ao36, co36, eo36⟩ := Kd.R_slice HO234.out
       (first | subst eo36 | (injection eo36 with f1_ f2_ f3_; have f4_ := f1_.symm; have f5_ := f3_.symm; clear f1_ f2_ f3_; subst f4_; subst f5_))
       refine norm_ (a' := ?_) ?_ ?_; rotate_left
       ·simp only [putAll, Act.put, List.setIfInBounds_toArray, List.set_cons_zero, List.set_cons_succ]
        rfl
       refine one_ (i := 15) (N := none) #[true, true, true, true, true, true, true, true, true, true, true, true, true, true, true, true] rfl rfl (one_of HT_.out (by kernel_rfl)) (by decide) (fun K hK => ?_)
       have hs37 : w35.cell? ⟨gb235, 0, none⟩ = some (.int .i64 0) := (blk_cell BK235.out 0).trans rfl; have hfs37 := blk_frozen BK235.out 0; have hns37_0 := NB231_235.out; have hms37_0 := NB235_231.out; have hs38 : w35.cell? ⟨gb235, 1, none⟩ = some (.int .i64 0) := (blk_cell BK235.out 1).trans rfl; have hfs38 := blk_frozen BK235.out 1; have hns38_0 := NB231_235.out; have hms38_0 := NB235_231.out; have hs39 : w35.cell? ⟨gb235, 2, none⟩ = some (.slice none 0 0) := (blk_cell BK235.out 2).trans rfl; have hfs39 := blk_frozen BK235.out 2; have hns39_0 := NB231_235.out; have hms39_0 := NB235_231.out
       refine skip_ (w1 := ?_) (by rfl) rfl ?_ ?_
       rotate_left
       ·go_simp
        rfl
       refine hK.out _ _ trivial (fun hHeld => ?_)
       clear hK K
       refine done_ (done_of HT_.out (by kernel_rfl)) ?_
       have hnb40 := NB235_231.out; have hnc40 := NB231_235.out; obtain ⟨hcz41_0, hcz41_1, hcz41_2⟩ := v3c BK235.out; obtain ⟨hfz41_0, hfz41_1, hfz41_2⟩ := v3f BK235.out
       try go_wp2_with (first | ((with_reducible refine gate_callee (f := 118) rfl ?_); refine goesL_ (some 24) rfl rfl Try.func118 (by kernel_rfl) rfl #[.agg #[.int .i64 (wrap64 (bt a0 0)), .int .i64 (wrap64 (bt a0 1)), .slice Ao36 y232.length co36]] rfl qm ?_; (with_reducible refine (spec_InodeOk.calls k (wrap64 (bt a0 0)) (wrap64 (bt a0 1)) _ _ y232 false _ ?side1 ?side2 A11.out).mono ?_); (case side1 => refine (Kd.R_reads' (e := 3) (base := w.heap.size) (ok := fun k_ => True) (n := y232.length) (c := co36) ?_).2.2; exact (vr HO234 BK235)); (case side2 => exact (Kd.R_reads' HO234.out).2.1); rintro e w42 ⟨rfl, hb⟩; refine ⟨_, rfl, ?_⟩; replace HO234 := vA (Kd.R_below (vr HO234 BK235) hb); replace BK231 := vB BK231 NB231_235 hb; replace BK235 := vA (blk_below (g := gb235) (o := .cells #[.int .i64 (wrap64 (bt a0 0)), .int .i64 (wrap64 (bt a0 1)), .slice Ao36 y232.length co36] 105 (0, 0)) (blk_put (blk_put (blk_put BK235.out 0 _ rfl) 1 _ rfl) 2 _ rfl) hb); replace HB := vbs HB hb; clear hb; obtain ⟨hcz43_0, hcz43_1, hcz43_2⟩ := v3c BK231.out; obtain ⟨hfz43_0, hfz43_1, hfz43_2⟩ := v3f BK231.out))
       refine bodyPost_ret (results_ct rfl _ _ gb231 105 #[.int .i64 0, .int .i64 0, .slice none 0 0] (0, 0) _ rfl (blk_put (blk_put (blk_put BK231.out 0 _ rfl) 1 _ rfl) 2 _ rfl) Try.underlying105 rfl (by kernel_rfl)) rfl ?_
       exact ⟨_, qe, by first | exact Kd.R_nil _ _ _ _ _ | exact Kd.N_nil _ _ _ _ _ | exact Kd.V_nil _ _ _ _ _ | exact Kd.Q_nil _ _ _ _ _ | exact Kd.S_nil _ _ _ _ _, qb2 HB.out GE231.out GE235.out⟩
     ·rw [if_neg c9] at H
      exact absurd H (by simp)
    ·rw [if_neg c7] at H
     exact absurd H (by simp)
   ·rw [if_neg c5] at H
    exact absurd H (by simp)
  ·rw [if_neg c3] at H
   exact absurd H (by simp)
 ·rw [if_neg c2] at H
  have c2b0 : ((a0.size : Int) == 4) = false := beq_eq_false_iff_ne.mpr c2; have c2b1 : ((a0.size : Int) != 4) = true := bne_iff_ne.mpr c2
  simp only [Option.some.injEq, Prod.mk.injEq] at H
  obtain ⟨rfl, rfl, rfl, rfl⟩ := H
  go_enter Try.func78, Try.ntmps78
  go_wp2_with (first | ((with_reducible refine gate_dst (N := 2) rfl ?_); refine vx (N := 2) (cs := #[.int .i64 0, .int .i64 0, .slice none 0 0]) (t := 105) ?_; intro gb231 hg w44 hbox hb; have BK231 := vA (hbox); have GW231 := vA ((vg hg (qb HB.out))); have GE231 := GW231; replace HB := vbs HB hb; clear hb hbox hg; obtain ⟨hcz45_0, hcz45_1, hcz45_2⟩ := v3c BK231.out; obtain ⟨hfz45_0, hfz45_1, hfz45_2⟩ := v3f BK231.out))
  refine bodyPost_ret (results_ct rfl _ _ gb231 105 #[.int .i64 0, .int .i64 0, .slice none 0 0] (0, 0) _ rfl (blk_put (blk_put (blk_put BK231.out 0 _ rfl) 1 _ rfl) 2 _ rfl) Try.underlying105 rfl (by kernel_rfl)) rfl ?_
  exact ⟨_, qe, by first | exact Kd.R_nil _ _ _ _ _ | exact Kd.N_nil _ _ _ _ _ | exact Kd.V_nil _ _ _ _ _ | exact Kd.Q_nil _ _ _ _ _ | exact Kd.S_nil _ _ _ _ _, qb1 HB.out GE231.out⟩

end Go.Proofs.Ytdnbpapolckklaa.PFnExactDiskOf
