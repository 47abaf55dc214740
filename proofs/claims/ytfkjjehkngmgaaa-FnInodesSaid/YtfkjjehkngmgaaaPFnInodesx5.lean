-- Written by a program of this session (a changed copy of the kit's print: wip/print2). Lean checks it.
import Derived.Test.YtfkjjehkngmgaaaPFnInodesx0
import Derived.Test.YtfkjjehkngmgaaaPFnInodesx4
namespace Go.Proofs.Ytfkjjehkngmgaaa.PFnInodes
open Go.RowKit Go.Proofs.YtfkjjehkngmgaaaW.PrintWords Go.Proofs.YtfkjjehkngmgaaaW.PrintLast Go.Proofs.YtfkjjehkngmgaaaW.PrintMore
attribute [local go_sem] max2_int min2_int max_two min_two max_three min_three max_four min_four   -- for this text's walks alone
attribute [local go_sem] Go.Proofs.Ytfkjjehkngmgaaa.Pad.isSome_setCell
set_option linter.unusedVariables false
set_option linter.unusedSimpArgs false

/-! ### spec_l03Inode: function 116 -/
def spec_l03Inode.f (s0_0 : List Int) (s0_1 : Int) (s0_2 : Int) : Option (Int × Int × List Int × Int × Int) := (spec_l01PickInt.f s0_0 s0_1 s0_2 (([0, 1, 2] : List Int))).bind fun bt170 => ((spec_InodeNew.f bt170.1).bind fun bt173 => (if bt173.1 = 0 then (some (bt173.1, bt173.2.1, bt173.2.2, bt170.2.1, bt170.2.2)) else ((spec_l01Below.f s0_0 bt170.2.1 bt170.2.2 4).bind fun bt179 => ((spec_l01Below.f s0_0 bt179.2.1 bt179.2.2 17).bind fun bt182 => (if 0 < (bt173.2.2.length : Int) then ((spec_l01Below.f s0_0 bt182.2.1 bt182.2.2 17).bind fun bt186 => ((spec_l01PickInt.f s0_0 bt186.2.1 bt186.2.2 (([0, 0, bt186.1] : List Int))).bind fun bt192 => (if 1 < (bt173.2.2.length : Int) then (some (bt173.1, bt179.1, ((bt173.2.2.set (0 : Int).toNat bt182.1).set (1 : Int).toNat bt192.1), bt192.2.1, bt192.2.2)) else (none)))) else (none))))))
def spec_l03Inode.T5 : Bool × List (List Nat × List Nat) := (true, [([], []), ([0], [0]), ([], []), ([], []), ([3], [3]), ([4], [4]), ([2, 5, 4], [2, 5]), ([1, 0, 1, 2, 3, 4, 5, 6], [1]), ([7, 6, 6, 0, 1, 2, 3, 4, 5, 6], [6, 7])])
def spec_l03Inode.B5 : List Nat := [0, 1, 0, 0, 8, 24, 60, 127, 255]
theorem spec_l03Inode.tab5 : rtab .any (opsOf Try.f116 5) = spec_l03Inode.T5 := by kernel_rfl
theorem spec_l03Inode.bits5 : waitsOk spec_l03Inode.T5.2 spec_l03Inode.B5 = true := by kernel_rfl
set_option maxHeartbeats 8000000 in
set_option maxRecDepth 100000 in
theorem spec_l03Inode.calls (g : Nat) (s0_0 : List Int) (s0_1 : Int) (s0_2 : Int) (r1 : Int) (r2 : Int) (r3 : List Int) (r4 : Int) (r5 : Int) (w0 w : World) (hI : IsS126 w0 w g s0_0 s0_1 s0_2) (hB : Below w0.heap.size w0 w) (h : spec_l03Inode.f s0_0 s0_1 s0_2 = some (r1, r2, r3, r4, r5)) :
  Calls Try.prog 116 #[.pointer (some ⟨g, 0, none⟩)] w fun e w' => ∃ v2_ : Value, e = .returned (.agg #[.int .i64 r1, .int .i64 r2, v2_]) ∧ Kd.R (Kd.int .i64) 3 w' w.heap.size (fun _ => True) v2_ r3 ∧ IsS126 w0 w' g s0_0 r4 r5 ∧ Below w0.heap.size w0 w' ∧ KeepBut w w' g none := by
 have hu34 := Try.underlying34
 have HI0 := Aside0.mk hI
 have HK := Aside0.mk (KeepBut.refl w g none)
 have HL := Aside0.mk hB.size
 clear hI
 have HW0 := Aside0.mk hB.size
 have HB := Aside0.mk hB
 clear hB
 have H : ((spec_l01PickInt.f s0_0 s0_1 s0_2 (([0, 1, 2] : List Int))).bind fun bt170 => ((spec_InodeNew.f bt170.1).bind fun bt173 => (if bt173.1 = 0 then (some (bt173.1, bt173.2.1, bt173.2.2, bt170.2.1, bt170.2.2)) else ((spec_l01Below.f s0_0 bt170.2.1 bt170.2.2 4).bind fun bt179 => ((spec_l01Below.f s0_0 bt179.2.1 bt179.2.2 17).bind fun bt182 => (if 0 < (bt173.2.2.length : Int) then ((spec_l01Below.f s0_0 bt182.2.1 bt182.2.2 17).bind fun bt186 => ((spec_l01PickInt.f s0_0 bt186.2.1 bt186.2.2 (([0, 0, bt186.1] : List Int))).bind fun bt192 => (if 1 < (bt173.2.2.length : Int) then (some (bt173.1, bt179.1, ((bt173.2.2.set (0 : Int).toNat bt182.1).set (1 : Int).toNat bt192.1), bt192.2.1, bt192.2.2)) else (none)))) else (none))))))) = some (r1, r2, r3, r4, r5) := h
 clear h
 obtain ⟨y167, hy167⟩ : ∃ y_ : List Int, y_ = (([0, 1, 2] : List Int)) := ⟨_, rfl⟩
 replace H : ((spec_l01PickInt.f s0_0 s0_1 s0_2 y167).bind fun bt170 => ((spec_InodeNew.f bt170.1).bind fun bt173 => (if bt173.1 = 0 then (some (bt173.1, bt173.2.1, bt173.2.2, bt170.2.1, bt170.2.2)) else ((spec_l01Below.f s0_0 bt170.2.1 bt170.2.2 4).bind fun bt179 => ((spec_l01Below.f s0_0 bt179.2.1 bt179.2.2 17).bind fun bt182 => (if 0 < (bt173.2.2.length : Int) then ((spec_l01Below.f s0_0 bt182.2.1 bt182.2.2 17).bind fun bt186 => ((spec_l01PickInt.f s0_0 bt186.2.1 bt186.2.2 (([0, 0, bt186.1] : List Int))).bind fun bt192 => (if 1 < (bt173.2.2.length : Int) then (some (bt173.1, bt179.1, ((bt173.2.2.set (0 : Int).toNat bt182.1).set (1 : Int).toNat bt192.1), bt192.2.1, bt192.2.2)) else (none)))) else (none))))))) = some (r1, r2, r3, r4, r5) := by first | (rw [hy167]; with_reducible exact H) | (have H2_ := (Option.bind_some _ _).symm.trans H; rw [hy167]; with_reducible exact H2_) | (have H2_ := (Option.bind_some _ _).symm.trans H; with_reducible exact H2_) | with_reducible exact H | (rw [hy167]; exact H) | exact H
 have Ny167 := Aside0.mk hy167
 clear hy167
 replace H := Option.bind_eq_some_iff.mp H
 obtain ⟨⟨t170, t171, t172⟩, A20, H⟩ := H
 replace H : ((spec_InodeNew.f t170).bind fun bt173 => (if bt173.1 = 0 then (some (bt173.1, bt173.2.1, bt173.2.2, t171, t172)) else ((spec_l01Below.f s0_0 t171 t172 4).bind fun bt179 => ((spec_l01Below.f s0_0 bt179.2.1 bt179.2.2 17).bind fun bt182 => (if 0 < (bt173.2.2.length : Int) then ((spec_l01Below.f s0_0 bt182.2.1 bt182.2.2 17).bind fun bt186 => ((spec_l01PickInt.f s0_0 bt186.2.1 bt186.2.2 (([0, 0, bt186.1] : List Int))).bind fun bt192 => (if 1 < (bt173.2.2.length : Int) then (some (bt173.1, bt179.1, ((bt173.2.2.set (0 : Int).toNat bt182.1).set (1 : Int).toNat bt192.1), bt192.2.1, bt192.2.2)) else (none)))) else (none)))))) = some (r1, r2, r3, r4, r5) := H
 have A2 := Aside0.mk A20
 clear A20
 replace H := Option.bind_eq_some_iff.mp H
 obtain ⟨⟨t173, t174, t175⟩, A30, H⟩ := H
 replace H : (if t173 = 0 then (some (t173, t174, t175, t171, t172)) else ((spec_l01Below.f s0_0 t171 t172 4).bind fun bt179 => ((spec_l01Below.f s0_0 bt179.2.1 bt179.2.2 17).bind fun bt182 => (if 0 < (t175.length : Int) then ((spec_l01Below.f s0_0 bt182.2.1 bt182.2.2 17).bind fun bt186 => ((spec_l01PickInt.f s0_0 bt186.2.1 bt186.2.2 (([0, 0, bt186.1] : List Int))).bind fun bt192 => (if 1 < (t175.length : Int) then (some (t173, bt179.1, ((t175.set (0 : Int).toNat bt182.1).set (1 : Int).toNat bt192.1), bt192.2.1, bt192.2.2)) else (none)))) else (none))))) = some (r1, r2, r3, r4, r5) := H
 have A3 := Aside0.mk A30
 clear A30
 by_cases c4 : t173 = 0
 ·rw [if_pos c4] at H
  have c4b0 : (t173 == 0) = true := beq_iff_eq.mpr c4
  have c4b1 : (t173 != 0) = false := bne_eq_false_iff_eq.mpr c4
  clear c4
  simp only [Option.some.injEq, Prod.mk.injEq] at H
  obtain ⟨rfl, rfl, rfl, rfl, rfl⟩ := H
  go_enter Try.func116, Try.ntmps116
  go_wp2_with (first | ((with_reducible refine gate_dst (N := 2) rfl ?_); refine box_event ?hg (N := 2) ?hd (cs := #[.int .i64 0, .int .i64 0, .slice none 0 0]) (t := 34) ?hr ?_; (case hd => rfl); (case hg => rfl); (case hr => first | (go_simp; done) | (go_simp; rfl)); intro gb166 hg w5 hbox hb; have n0_ := Aside0.mk (IsS126.below (by repeat (first | (with_reducible first | exact HI0.out | apply IsS126.alloc | apply IsS126.drewN | apply IsS126.drew | apply IsS126.set_1 | apply IsS126.set_2) | exact HI0.out)) hb); have n1_ := Aside0.mk (KeepBut.trans (qh HK.out) (KeepBut.of_below hb g none) (.inl rfl)); have n2_ := Aside0.mk (below_step (qb1 HB.out (IsS126.ge HI0.out)) hb); have n3_ := Aside0.mk (hbox); have n4_ := Aside0.mk ((by rw [hg]; exact (keep_size (w := w) (g := g) (row := none) (qh HK.out)) : w.heap.size ≤ gb166)); have n5_ := Aside0.mk ((Nat.le_trans HW0.out (by rw [hg]; exact (keep_size (w := w) (g := g) (row := none) (qh HK.out)) : w.heap.size ≤ gb166) : w0.heap.size ≤ gb166)); have n6_ := Aside0.mk ((by rw [hg]; exact Nat.ne_of_lt (IsS126.lt (show IsS126 w0 _ g s0_0 s0_1 s0_2 from by repeat (first | (with_reducible first | exact HI0.out | apply IsS126.alloc | apply IsS126.drewN | apply IsS126.drew | apply IsS126.set_1 | apply IsS126.set_2) | exact HI0.out))) : g ≠ gb166)); have n7_ := Aside0.mk ((by rw [hg]; exact Nat.ne_of_gt (IsS126.lt (show IsS126 w0 _ g s0_0 s0_1 s0_2 from by repeat (first | (with_reducible first | exact HI0.out | apply IsS126.alloc | apply IsS126.drewN | apply IsS126.drew | apply IsS126.set_1 | apply IsS126.set_2) | exact HI0.out))) : gb166 ≠ g)); clear HI0; clear HK; clear HB; have HI0 := n0_; have HK := n1_; have HB := n2_; have BK166 := n3_; have GW166 := n4_; have GE166 := n5_; have NB0_166 := n6_; have NB166_0 := n7_; clear n0_ n1_ n2_ n3_ n4_ n5_ n6_ n7_; clear hb hbox hg) | ((with_reducible refine gate_dst (N := 5) rfl ?_); refine Kd.R_lit (Kd.int .i64) _ 3 ?hg (N := 5) ?hd (xs := ([0, 1, 2] : List Int)) (inner := [.int .i64 0, .int .i64 1, .int .i64 2]) (ok := fun _ => True) (okp := fun _ => True) ?hr ?hp (fun _ hk => hk) trivial (Below.refl _ _) (Nat.le_refl _) (by simp) ?_; (case hd => rfl); (case hg => rfl); (case hr => first | (go_simp; done) | (go_simp; rfl)); (case hp => exact (Reps.one (show Kd.M (Kd.int .i64) _ _ _ 0 [.int .i64 0] from rfl) (Reps.one (show Kd.M (Kd.int .i64) _ _ _ 1 [.int .i64 1] from rfl) (Reps.one (show Kd.M (Kd.int .i64) _ _ _ 2 [.int .i64 2] from rfl) (Reps.none _ _))))); intro v168 w6 ho7 hb hg_ hnew_; clear hg_ hnew_; (first | rw [← Ny167.out] at ho7 | (simp only [Int.reduceToNat] at ho7; rw [← Ny167.out] at ho7)); have n0_ := Aside0.mk (Kd.R_lower ho7 (keep_size (w := w) (g := g) (row := none) (qh1 HK.out GW166.out))); have n1_ := Aside0.mk (IsS126.below (by repeat (first | (with_reducible first | exact HI0.out | apply IsS126.alloc | apply IsS126.drewN | apply IsS126.drew | apply IsS126.set_1 | apply IsS126.set_2 | refine IsS126.far ?_ NB0_166.out _) | exact HI0.out)) hb); have n2_ := Aside0.mk (blk_below (g := gb166) (o := .cells #[.int .i64 0, .int .i64 0, .slice none 0 0] 34 (0, 0)) (qk BK166.out) hb); have n3_ := Aside0.mk (KeepBut.trans (qh1 HK.out GW166.out) (KeepBut.of_below hb g none) (.inl rfl)); have n4_ := Aside0.mk (below_step (qb2 HB.out (IsS126.ge HI0.out) GE166.out) hb); clear HI0; clear BK166; clear HK; clear HB; have HO169 := n0_; have HI0 := n1_; have BK166 := n2_; have HK := n3_; have HB := n4_; clear n0_ n1_ n2_ n3_ n4_; clear hb ho7; obtain ⟨Ao8, co8, eo8⟩ := Kd.R_slice HO169.out; subst eo8) | ((with_reducible refine gate_callee (f := 92) rfl ?_); refine goesL_ (some 6) rfl rfl Try.func92 (by kernel_rfl) rfl #[.pointer (some ⟨g, 0, none⟩), .slice Ao8 y167.length co8] rfl qm ?_; (with_reducible refine (spec_l01PickInt.calls g s0_0 s0_1 s0_2 _ _ y167 t170 t171 t172 w0 _ ?side1 ?side2 ?side3 ?side4 ?side5 A2.out).mono ?_); (case side1 => repeat (first | (with_reducible first | exact HI0.out | apply IsS126.alloc | apply IsS126.drewN | apply IsS126.drew | apply IsS126.set_1 | apply IsS126.set_2 | refine IsS126.far ?_ NB0_166.out _) | exact HI0.out)); (case side2 => repeat (first | (with_reducible first | exact HB.out | apply below_alloc | apply pw_below_drewN | apply below_drew1 | refine below_set ?_ (IsS126.ge HI0.out) | refine below_set ?_ GE166.out) | exact HB.out)); (case side3 => repeat (first | exact (Kd.R_reads' HO169.out).2.2 | (with_reducible refine Kd.C_alloc ?_ _) | (with_reducible refine Kd.C_drewN ?_ _) | (with_reducible refine Kd.C_drew ?_))); (case side4 => exact (Kd.R_reads' HO169.out).2.1); (case side5 => exact far_slice (IsS126.own_ne HI0.out HO169.out (by decide))); rintro e w9 ⟨rfl, hi, hb, hk⟩; refine ⟨_, rfl, ?_⟩; have n0_ := Aside0.mk (KeepBut.blk hk (g' := gb166) (o := .cells #[.int .i64 0, .int .i64 0, .slice none 0 0] 34 (0, 0)) (qk BK166.out) NB166_0.out (by simp)); have n1_ := Aside0.mk (Kd.R_mono (Kd.R_keep (IsS126.apart (show IsS126 w0 _ g s0_0 s0_1 s0_2 from by repeat (first | (with_reducible first | exact HI0.out | apply IsS126.alloc | apply IsS126.drewN | apply IsS126.drew | apply IsS126.set_1 | apply IsS126.set_2 | refine IsS126.far ?_ NB0_166.out _) | exact HI0.out)) (qr HO169.out) (by decide)) hk (fun _ h => h.2)) (fun _ h => h.1)); have n2_ := Aside0.mk (KeepBut.trans (qh1 HK.out GW166.out) hk (.inl rfl)); have n3_ := Aside0.mk (hb); have n4_ := Aside0.mk (hi); clear BK166; clear HO169; clear HK; clear HB; clear HI0; have BK166 := n0_; have HO169 := n1_; have HK := n2_; have HB := n3_; have HI0 := n4_; clear n0_ n1_ n2_ n3_ n4_; (try clear hb); (try clear hb2); (try clear hk); (try clear hi)) | ((with_reducible refine gate_callee (f := 107) rfl ?_); refine goesL_ (some 7) rfl rfl Try.func107 (by kernel_rfl) rfl #[.int .i64 t170] rfl qm ?_; (with_reducible refine (spec_InodeNew.calls t170 t173 t174 t175 _ A3.out).mono ?_); rintro e w10 ⟨v176, rfl, ho0, hb⟩; refine ⟨_, rfl, ?_⟩; have n0_ := Aside0.mk (Kd.R_elder' (qr HO169.out) (Kd.R_base ho0) hb); have n1_ := Aside0.mk (Kd.R_lower (Kd.R_new' ho0 (Kd.R_lt (qr HO169.out))) (keep_size (w := w) (g := g) (row := none) (qh1 HK.out GW166.out))); have n2_ := Aside0.mk (IsS126.below (by repeat (first | (with_reducible first | exact HI0.out | apply IsS126.alloc | apply IsS126.drewN | apply IsS126.drew | apply IsS126.set_1 | apply IsS126.set_2 | refine IsS126.far ?_ NB0_166.out _) | exact HI0.out)) hb); have n3_ := Aside0.mk (blk_below (g := gb166) (o := .cells #[.int .i64 0, .int .i64 0, .slice none 0 0] 34 (0, 0)) (qk BK166.out) hb); have n4_ := Aside0.mk (KeepBut.trans (qh1 HK.out GW166.out) (KeepBut.of_below hb g none) (.inl rfl)); have n5_ := Aside0.mk (below_step (qb2 HB.out (IsS126.ge HI0.out) GE166.out) hb); clear HO169; clear HI0; clear BK166; clear HK; clear HB; have HO169 := n0_; have HO177 := n1_; have HI0 := n2_; have BK166 := n3_; have HK := n4_; have HB := n5_; clear n0_ n1_ n2_ n3_ n4_ n5_; (try clear hb); (try clear hb2); (try clear hk); (try clear hi); (try clear ho0)) | ((with_reducible refine gate_dst (N := 3) rfl ?_); refine box_event ?hg (N := 3) ?hd (cs := #[.int .i64 0, .int .i64 0, .slice none 0 0]) (t := 34) ?hr ?_; (case hd => rfl); (case hg => rfl); (case hr => first | (go_simp; done) | (go_simp; rfl)); intro gb178 hg w11 hbox hb; have n0_ := Aside0.mk (Kd.R_below (qr HO169.out) hb); have n1_ := Aside0.mk (Kd.R_below (qr HO177.out) hb); have n2_ := Aside0.mk (IsS126.below (by repeat (first | (with_reducible first | exact HI0.out | apply IsS126.alloc | apply IsS126.drewN | apply IsS126.drew | apply IsS126.set_1 | apply IsS126.set_2 | refine IsS126.far ?_ NB0_166.out _) | exact HI0.out)) hb); have n3_ := Aside0.mk (blk_below (g := gb166) (o := .cells #[.int .i64 0, .int .i64 0, .slice none 0 0] 34 (0, 0)) (qk BK166.out) hb); have n4_ := Aside0.mk (KeepBut.trans (qh1 HK.out GW166.out) (KeepBut.of_below hb g none) (.inl rfl)); have n5_ := Aside0.mk (below_step (qb2 HB.out (IsS126.ge HI0.out) GE166.out) hb); have n6_ := Aside0.mk (hbox); have n7_ := Aside0.mk ((by rw [hg]; exact (keep_size (w := w) (g := g) (row := none) (qh1 HK.out GW166.out)) : w.heap.size ≤ gb178)); have n8_ := Aside0.mk ((Nat.le_trans HW0.out (by rw [hg]; exact (keep_size (w := w) (g := g) (row := none) (qh1 HK.out GW166.out)) : w.heap.size ≤ gb178) : w0.heap.size ≤ gb178)); have n9_ := Aside0.mk ((by rw [hg]; exact Nat.ne_of_lt (blk_lt (g := gb166) (o := .cells #[.int .i64 0, .int .i64 0, .slice none 0 0] 34 (0, 0)) (qk BK166.out)) : gb166 ≠ gb178)); have n10_ := Aside0.mk ((by rw [hg]; exact Nat.ne_of_gt (blk_lt (g := gb166) (o := .cells #[.int .i64 0, .int .i64 0, .slice none 0 0] 34 (0, 0)) (qk BK166.out)) : gb178 ≠ gb166)); have n11_ := Aside0.mk ((by rw [hg]; exact Nat.ne_of_lt (IsS126.lt (show IsS126 w0 _ g s0_0 t171 t172 from by repeat (first | (with_reducible first | exact HI0.out | apply IsS126.alloc | apply IsS126.drewN | apply IsS126.drew | apply IsS126.set_1 | apply IsS126.set_2 | refine IsS126.far ?_ NB0_166.out _) | exact HI0.out))) : g ≠ gb178)); have n12_ := Aside0.mk ((by rw [hg]; exact Nat.ne_of_gt (IsS126.lt (show IsS126 w0 _ g s0_0 t171 t172 from by repeat (first | (with_reducible first | exact HI0.out | apply IsS126.alloc | apply IsS126.drewN | apply IsS126.drew | apply IsS126.set_1 | apply IsS126.set_2 | refine IsS126.far ?_ NB0_166.out _) | exact HI0.out))) : gb178 ≠ g)); clear HO169; clear HO177; clear HI0; clear BK166; clear HK; clear HB; have HO169 := n0_; have HO177 := n1_; have HI0 := n2_; have BK166 := n3_; have HK := n4_; have HB := n5_; have BK178 := n6_; have GW178 := n7_; have GE178 := n8_; have NB166_178 := n9_; have NB178_166 := n10_; have NB0_178 := n11_; have NB178_0 := n12_; clear n0_ n1_ n2_ n3_ n4_ n5_ n6_ n7_ n8_ n9_ n10_ n11_ n12_; clear hb hbox hg; have hnb12 := NB178_166.out; have hnc12 := NB166_178.out; have hnb13 := NB178_0.out; have hnc13 := NB0_178.out; have hcz14_0 : w11.cell? ⟨gb178, 0, none⟩ = some (.int .i64 0) := (blk_cell BK178.out 0).trans rfl; have hcz14_1 : w11.cell? ⟨gb178, 1, none⟩ = some (.int .i64 0) := (blk_cell BK178.out 1).trans rfl; have hcz14_2 : w11.cell? ⟨gb178, 2, none⟩ = some (.slice none 0 0) := (blk_cell BK178.out 2).trans rfl; have hfz14_0 := blk_frozen BK178.out 0; have hfz14_1 := blk_frozen BK178.out 1; have hfz14_2 := blk_frozen BK178.out 2; obtain ⟨Ao15, co15, eo15⟩ := Kd.R_slice HO177.out; subst eo15; have hnb16 := NB166_0.out; have hnc16 := NB0_166.out; have hcz17_0 : w11.cell? ⟨gb166, 0, none⟩ = some (.int .i64 0) := (blk_cell BK166.out 0).trans rfl; have hcz17_1 : w11.cell? ⟨gb166, 1, none⟩ = some (.int .i64 0) := (blk_cell BK166.out 1).trans rfl; have hcz17_2 : w11.cell? ⟨gb166, 2, none⟩ = some (.slice none 0 0) := (blk_cell BK166.out 2).trans rfl; have hfz17_0 := blk_frozen BK166.out 0; have hfz17_1 := blk_frozen BK166.out 1; have hfz17_2 := blk_frozen BK166.out 2))
  refine bodyPost_ret (results_cell_row rfl _ _ gb166 34 #[.int .i64 t173, .int .i64 t174, .slice Ao15 t175.length co15] (0, 0) _ rfl (by refine qK ?_; refine blk_put (cs := #[.int .i64 t173, .int .i64 t174, .slice none 0 0]) ?_ 2 _ rfl; refine qK ?_; refine blk_put (cs := #[.int .i64 t173, .int .i64 0, .slice none 0 0]) ?_ 1 _ rfl; refine qK ?_; refine blk_put (cs := #[.int .i64 0, .int .i64 0, .slice none 0 0]) ?_ 0 _ rfl; refine qK ?_; refine blk_far ?_ NB166_178.out _; refine qK ?_; refine blk_far ?_ NB166_178.out _; refine qK ?_; refine blk_far ?_ NB166_178.out _; refine qK ?_; exact BK166.out) Try.underlying34 rfl (by kernel_rfl)) rfl ?_
  exact ⟨_, qe, by refine qR ?_; exact Kd.R_mono (Kd.R_far (p := ⟨gb166, 2, none⟩) (Kd.R_far (p := ⟨gb166, 1, none⟩) (Kd.R_far (p := ⟨gb166, 0, none⟩) (Kd.R_far (p := ⟨gb178, 2, none⟩) (Kd.R_far (p := ⟨gb178, 1, none⟩) (Kd.R_far (p := ⟨gb178, 0, none⟩) (Kd.R_types (Kd.R_types HO177.out BK178.out (by decide)) BK166.out (by decide)) (fun _ hk => hk.1.2) (.int .i64 t173)) (fun _ hk => hk.1.2) (.int .i64 t174)) (fun _ hk => hk.1.2) (.slice Ao15 t175.length co15)) (fun _ hk => hk.2) (.int .i64 t173)) (fun _ hk => hk.2) (.int .i64 t174)) (fun _ hk => hk.2) (.slice Ao15 t175.length co15)) (fun _ hk => trivial), by repeat (first | (with_reducible first | exact HI0.out | apply IsS126.alloc | apply IsS126.drewN | apply IsS126.drew | apply IsS126.set_1 | apply IsS126.set_2 | refine IsS126.far ?_ NB0_166.out _ | refine IsS126.far ?_ NB0_178.out _) | exact HI0.out), qb3 HB.out (IsS126.ge HI0.out) GE166.out GE178.out, qh2 HK.out GW166.out GW178.out⟩
 ·rw [if_neg c4] at H
  have c4b0 : (t173 == 0) = false := beq_eq_false_iff_ne.mpr c4
  have c4b1 : (t173 != 0) = true := bne_iff_ne.mpr c4
  replace H := Option.bind_eq_some_iff.mp H
  obtain ⟨⟨t179, t180, t181⟩, A180, H⟩ := H
  replace H : ((spec_l01Below.f s0_0 t180 t181 17).bind fun bt182 => (if 0 < (t175.length : Int) then ((spec_l01Below.f s0_0 bt182.2.1 bt182.2.2 17).bind fun bt186 => ((spec_l01PickInt.f s0_0 bt186.2.1 bt186.2.2 (([0, 0, bt186.1] : List Int))).bind fun bt192 => (if 1 < (t175.length : Int) then (some (t173, t179, ((t175.set (0 : Int).toNat bt182.1).set (1 : Int).toNat bt192.1), bt192.2.1, bt192.2.2)) else (none)))) else (none))) = some (r1, r2, r3, r4, r5) := H
  have A18 := Aside0.mk A180
  clear A180
  replace H := Option.bind_eq_some_iff.mp H
  obtain ⟨⟨t182, t183, t184⟩, A190, H⟩ := H
  replace H : (if 0 < (t175.length : Int) then ((spec_l01Below.f s0_0 t183 t184 17).bind fun bt186 => ((spec_l01PickInt.f s0_0 bt186.2.1 bt186.2.2 (([0, 0, bt186.1] : List Int))).bind fun bt192 => (if 1 < (t175.length : Int) then (some (t173, t179, ((t175.set (0 : Int).toNat t182).set (1 : Int).toNat bt192.1), bt192.2.1, bt192.2.2)) else (none)))) else (none)) = some (r1, r2, r3, r4, r5) := H
  have A19 := Aside0.mk A190
  clear A190
  by_cases c20 : 0 < (t175.length : Int)
  ·rw [if_pos c20] at H
   have c20b0 : decide (0 < (t175.length : Int)) = true := decide_eq_true c20
   have c20b1 : decide (0 < t175.length) = true := decide_eq_true (by omega)
   clear c20
   obtain ⟨y185, hy185⟩ : ∃ y_ : List Int, y_ = (t175.set (0 : Int).toNat t182) := ⟨_, rfl⟩
   replace H : ((spec_l01Below.f s0_0 t183 t184 17).bind fun bt186 => ((spec_l01PickInt.f s0_0 bt186.2.1 bt186.2.2 (([0, 0, bt186.1] : List Int))).bind fun bt192 => (if 1 < (t175.length : Int) then (some (t173, t179, (y185.set (1 : Int).toNat bt192.1), bt192.2.1, bt192.2.2)) else (none)))) = some (r1, r2, r3, r4, r5) := by first | (rw [hy185]; with_reducible exact H) | (have H2_ := (Option.bind_some _ _).symm.trans H; rw [hy185]; with_reducible exact H2_) | (have H2_ := (Option.bind_some _ _).symm.trans H; with_reducible exact H2_) | with_reducible exact H | (rw [hy185]; exact H) | exact H
   have Ny185 := Aside0.mk hy185
   clear hy185
   replace H := Option.bind_eq_some_iff.mp H
   obtain ⟨⟨t186, t187, t188⟩, A220, H⟩ := H
   replace H : ((spec_l01PickInt.f s0_0 t187 t188 (([0, 0, t186] : List Int))).bind fun bt192 => (if 1 < (t175.length : Int) then (some (t173, t179, (y185.set (1 : Int).toNat bt192.1), bt192.2.1, bt192.2.2)) else (none))) = some (r1, r2, r3, r4, r5) := H
   have A22 := Aside0.mk A220
   clear A220
   obtain ⟨y189, hy189⟩ : ∃ y_ : List Int, y_ = (([0, 0, t186] : List Int)) := ⟨_, rfl⟩
   replace H : ((spec_l01PickInt.f s0_0 t187 t188 y189).bind fun bt192 => (if 1 < (t175.length : Int) then (some (t173, t179, (y185.set (1 : Int).toNat bt192.1), bt192.2.1, bt192.2.2)) else (none))) = some (r1, r2, r3, r4, r5) := by first | (rw [hy189]; with_reducible exact H) | (have H2_ := (Option.bind_some _ _).symm.trans H; rw [hy189]; with_reducible exact H2_) | (have H2_ := (Option.bind_some _ _).symm.trans H; with_reducible exact H2_) | with_reducible exact H | (rw [hy189]; exact H) | exact H
   have Ny189 := Aside0.mk hy189
   clear hy189
   replace H := Option.bind_eq_some_iff.mp H
   obtain ⟨⟨t192, t193, t194⟩, A230, H⟩ := H
   replace H : (if 1 < (t175.length : Int) then (some (t173, t179, (y185.set (1 : Int).toNat t192), t193, t194)) else (none)) = some (r1, r2, r3, r4, r5) := H
   have A23 := Aside0.mk A230
   clear A230
   by_cases c24 : 1 < (t175.length : Int)
   ·rw [if_pos c24] at H
    have c24b0 : decide (1 < (t175.length : Int)) = true := decide_eq_true c24
    have c24b1 : decide (1 < t175.length) = true := decide_eq_true (by omega)
    clear c24
    obtain ⟨y195, hy195⟩ : ∃ y_ : List Int, y_ = (y185.set (1 : Int).toNat t192) := ⟨_, rfl⟩
    replace H : (some (t173, t179, y195, t193, t194)) = some (r1, r2, r3, r4, r5) := by first | (rw [hy195]; with_reducible exact H) | (have H2_ := (Option.bind_some _ _).symm.trans H; rw [hy195]; with_reducible exact H2_) | (have H2_ := (Option.bind_some _ _).symm.trans H; with_reducible exact H2_) | with_reducible exact H | (rw [hy195]; exact H) | exact H
    have Ny195 := Aside0.mk hy195
    clear hy195
    simp only [Option.some.injEq, Prod.mk.injEq] at H
    obtain ⟨rfl, rfl, rfl, rfl, rfl⟩ := H
    go_enter Try.func116, Try.ntmps116
    try go_wp2_with (first | ((with_reducible refine gate_dst (N := 2) rfl ?_); refine box_event ?hg (N := 2) ?hd (cs := #[.int .i64 0, .int .i64 0, .slice none 0 0]) (t := 34) ?hr ?_; (case hd => rfl); (case hg => rfl); (case hr => first | (go_simp; done) | (go_simp; rfl)); intro gb166 hg w26 hbox hb; have n0_ := Aside0.mk (IsS126.below (by repeat (first | (with_reducible first | exact HI0.out | apply IsS126.alloc | apply IsS126.drewN | apply IsS126.drew | apply IsS126.set_1 | apply IsS126.set_2) | exact HI0.out)) hb); have n1_ := Aside0.mk (KeepBut.trans (qh HK.out) (KeepBut.of_below hb g none) (.inl rfl)); have n2_ := Aside0.mk (below_step (qb1 HB.out (IsS126.ge HI0.out)) hb); have n3_ := Aside0.mk (hbox); have n4_ := Aside0.mk ((by rw [hg]; exact (keep_size (w := w) (g := g) (row := none) (qh HK.out)) : w.heap.size ≤ gb166)); have n5_ := Aside0.mk ((Nat.le_trans HW0.out (by rw [hg]; exact (keep_size (w := w) (g := g) (row := none) (qh HK.out)) : w.heap.size ≤ gb166) : w0.heap.size ≤ gb166)); have n6_ := Aside0.mk ((by rw [hg]; exact Nat.ne_of_lt (IsS126.lt (show IsS126 w0 _ g s0_0 s0_1 s0_2 from by repeat (first | (with_reducible first | exact HI0.out | apply IsS126.alloc | apply IsS126.drewN | apply IsS126.drew | apply IsS126.set_1 | apply IsS126.set_2) | exact HI0.out))) : g ≠ gb166)); have n7_ := Aside0.mk ((by rw [hg]; exact Nat.ne_of_gt (IsS126.lt (show IsS126 w0 _ g s0_0 s0_1 s0_2 from by repeat (first | (with_reducible first | exact HI0.out | apply IsS126.alloc | apply IsS126.drewN | apply IsS126.drew | apply IsS126.set_1 | apply IsS126.set_2) | exact HI0.out))) : gb166 ≠ g)); clear HI0; clear HK; clear HB; have HI0 := n0_; have HK := n1_; have HB := n2_; have BK166 := n3_; have GW166 := n4_; have GE166 := n5_; have NB0_166 := n6_; have NB166_0 := n7_; clear n0_ n1_ n2_ n3_ n4_ n5_ n6_ n7_; clear hb hbox hg) | ((with_reducible refine gate_dst (N := 5) rfl ?_); refine Kd.R_lit (Kd.int .i64) _ 3 ?hg (N := 5) ?hd (xs := ([0, 1, 2] : List Int)) (inner := [.int .i64 0, .int .i64 1, .int .i64 2]) (ok := fun _ => True) (okp := fun _ => True) ?hr ?hp (fun _ hk => hk) trivial (Below.refl _ _) (Nat.le_refl _) (by simp) ?_; (case hd => rfl); (case hg => rfl); (case hr => first | (go_simp; done) | (go_simp; rfl)); (case hp => exact (Reps.one (show Kd.M (Kd.int .i64) _ _ _ 0 [.int .i64 0] from rfl) (Reps.one (show Kd.M (Kd.int .i64) _ _ _ 1 [.int .i64 1] from rfl) (Reps.one (show Kd.M (Kd.int .i64) _ _ _ 2 [.int .i64 2] from rfl) (Reps.none _ _))))); intro v168 w27 ho28 hb hg_ hnew_; clear hg_ hnew_; (first | rw [← Ny167.out] at ho28 | (simp only [Int.reduceToNat] at ho28; rw [← Ny167.out] at ho28)); have n0_ := Aside0.mk (Kd.R_lower ho28 (keep_size (w := w) (g := g) (row := none) (qh1 HK.out GW166.out))); have n1_ := Aside0.mk (IsS126.below (by repeat (first | (with_reducible first | exact HI0.out | apply IsS126.alloc | apply IsS126.drewN | apply IsS126.drew | apply IsS126.set_1 | apply IsS126.set_2 | refine IsS126.far ?_ NB0_166.out _) | exact HI0.out)) hb); have n2_ := Aside0.mk (blk_below (g := gb166) (o := .cells #[.int .i64 0, .int .i64 0, .slice none 0 0] 34 (0, 0)) (qk BK166.out) hb); have n3_ := Aside0.mk (KeepBut.trans (qh1 HK.out GW166.out) (KeepBut.of_below hb g none) (.inl rfl)); have n4_ := Aside0.mk (below_step (qb2 HB.out (IsS126.ge HI0.out) GE166.out) hb); clear HI0; clear BK166; clear HK; clear HB; have HO169 := n0_; have HI0 := n1_; have BK166 := n2_; have HK := n3_; have HB := n4_; clear n0_ n1_ n2_ n3_ n4_; clear hb ho28; obtain ⟨Ao29, co29, eo29⟩ := Kd.R_slice HO169.out; subst eo29) | ((with_reducible refine gate_callee (f := 92) rfl ?_); refine goesL_ (some 6) rfl rfl Try.func92 (by kernel_rfl) rfl #[.pointer (some ⟨g, 0, none⟩), .slice Ao29 y167.length co29] rfl qm ?_; (with_reducible refine (spec_l01PickInt.calls g s0_0 s0_1 s0_2 _ _ y167 t170 t171 t172 w0 _ ?side1 ?side2 ?side3 ?side4 ?side5 A2.out).mono ?_); (case side1 => repeat (first | (with_reducible first | exact HI0.out | apply IsS126.alloc | apply IsS126.drewN | apply IsS126.drew | apply IsS126.set_1 | apply IsS126.set_2 | refine IsS126.far ?_ NB0_166.out _) | exact HI0.out)); (case side2 => repeat (first | (with_reducible first | exact HB.out | apply below_alloc | apply pw_below_drewN | apply below_drew1 | refine below_set ?_ (IsS126.ge HI0.out) | refine below_set ?_ GE166.out) | exact HB.out)); (case side3 => repeat (first | exact (Kd.R_reads' HO169.out).2.2 | (with_reducible refine Kd.C_alloc ?_ _) | (with_reducible refine Kd.C_drewN ?_ _) | (with_reducible refine Kd.C_drew ?_))); (case side4 => exact (Kd.R_reads' HO169.out).2.1); (case side5 => exact far_slice (IsS126.own_ne HI0.out HO169.out (by decide))); rintro e w30 ⟨rfl, hi, hb, hk⟩; refine ⟨_, rfl, ?_⟩; have n0_ := Aside0.mk (KeepBut.blk hk (g' := gb166) (o := .cells #[.int .i64 0, .int .i64 0, .slice none 0 0] 34 (0, 0)) (qk BK166.out) NB166_0.out (by simp)); have n1_ := Aside0.mk (Kd.R_mono (Kd.R_keep (IsS126.apart (show IsS126 w0 _ g s0_0 s0_1 s0_2 from by repeat (first | (with_reducible first | exact HI0.out | apply IsS126.alloc | apply IsS126.drewN | apply IsS126.drew | apply IsS126.set_1 | apply IsS126.set_2 | refine IsS126.far ?_ NB0_166.out _) | exact HI0.out)) (qr HO169.out) (by decide)) hk (fun _ h => h.2)) (fun _ h => h.1)); have n2_ := Aside0.mk (KeepBut.trans (qh1 HK.out GW166.out) hk (.inl rfl)); have n3_ := Aside0.mk (hb); have n4_ := Aside0.mk (hi); clear BK166; clear HO169; clear HK; clear HB; clear HI0; have BK166 := n0_; have HO169 := n1_; have HK := n2_; have HB := n3_; have HI0 := n4_; clear n0_ n1_ n2_ n3_ n4_; (try clear hb); (try clear hb2); (try clear hk); (try clear hi)) | ((with_reducible refine gate_callee (f := 107) rfl ?_); refine goesL_ (some 7) rfl rfl Try.func107 (by kernel_rfl) rfl #[.int .i64 t170] rfl qm ?_; (with_reducible refine (spec_InodeNew.calls t170 t173 t174 t175 _ A3.out).mono ?_); rintro e w31 ⟨v176, rfl, ho0, hb⟩; refine ⟨_, rfl, ?_⟩; have n0_ := Aside0.mk (Kd.R_elder' (qr HO169.out) (Kd.R_base ho0) hb); have n1_ := Aside0.mk (Kd.R_lower (Kd.R_new' ho0 (Kd.R_lt (qr HO169.out))) (keep_size (w := w) (g := g) (row := none) (qh1 HK.out GW166.out))); have n2_ := Aside0.mk (IsS126.below (by repeat (first | (with_reducible first | exact HI0.out | apply IsS126.alloc | apply IsS126.drewN | apply IsS126.drew | apply IsS126.set_1 | apply IsS126.set_2 | refine IsS126.far ?_ NB0_166.out _) | exact HI0.out)) hb); have n3_ := Aside0.mk (blk_below (g := gb166) (o := .cells #[.int .i64 0, .int .i64 0, .slice none 0 0] 34 (0, 0)) (qk BK166.out) hb); have n4_ := Aside0.mk (KeepBut.trans (qh1 HK.out GW166.out) (KeepBut.of_below hb g none) (.inl rfl)); have n5_ := Aside0.mk (below_step (qb2 HB.out (IsS126.ge HI0.out) GE166.out) hb); clear HO169; clear HI0; clear BK166; clear HK; clear HB; have HO169 := n0_; have HO177 := n1_; have HI0 := n2_; have BK166 := n3_; have HK := n4_; have HB := n5_; clear n0_ n1_ n2_ n3_ n4_ n5_; (try clear hb); (try clear hb2); (try clear hk); (try clear hi); (try clear ho0)) | ((with_reducible refine gate_dst (N := 3) rfl ?_); refine box_event ?hg (N := 3) ?hd (cs := #[.int .i64 0, .int .i64 0, .slice none 0 0]) (t := 34) ?hr ?_; (case hd => rfl); (case hg => rfl); (case hr => first | (go_simp; done) | (go_simp; rfl)); intro gb178 hg w32 hbox hb; have n0_ := Aside0.mk (Kd.R_below (qr HO169.out) hb); have n1_ := Aside0.mk (Kd.R_below (qr HO177.out) hb); have n2_ := Aside0.mk (IsS126.below (by repeat (first | (with_reducible first | exact HI0.out | apply IsS126.alloc | apply IsS126.drewN | apply IsS126.drew | apply IsS126.set_1 | apply IsS126.set_2 | refine IsS126.far ?_ NB0_166.out _) | exact HI0.out)) hb); have n3_ := Aside0.mk (blk_below (g := gb166) (o := .cells #[.int .i64 0, .int .i64 0, .slice none 0 0] 34 (0, 0)) (qk BK166.out) hb); have n4_ := Aside0.mk (KeepBut.trans (qh1 HK.out GW166.out) (KeepBut.of_below hb g none) (.inl rfl)); have n5_ := Aside0.mk (below_step (qb2 HB.out (IsS126.ge HI0.out) GE166.out) hb); have n6_ := Aside0.mk (hbox); have n7_ := Aside0.mk ((by rw [hg]; exact (keep_size (w := w) (g := g) (row := none) (qh1 HK.out GW166.out)) : w.heap.size ≤ gb178)); have n8_ := Aside0.mk ((Nat.le_trans HW0.out (by rw [hg]; exact (keep_size (w := w) (g := g) (row := none) (qh1 HK.out GW166.out)) : w.heap.size ≤ gb178) : w0.heap.size ≤ gb178)); have n9_ := Aside0.mk ((by rw [hg]; exact Nat.ne_of_lt (blk_lt (g := gb166) (o := .cells #[.int .i64 0, .int .i64 0, .slice none 0 0] 34 (0, 0)) (qk BK166.out)) : gb166 ≠ gb178)); have n10_ := Aside0.mk ((by rw [hg]; exact Nat.ne_of_gt (blk_lt (g := gb166) (o := .cells #[.int .i64 0, .int .i64 0, .slice none 0 0] 34 (0, 0)) (qk BK166.out)) : gb178 ≠ gb166)); have n11_ := Aside0.mk ((by rw [hg]; exact Nat.ne_of_lt (IsS126.lt (show IsS126 w0 _ g s0_0 t171 t172 from by repeat (first | (with_reducible first | exact HI0.out | apply IsS126.alloc | apply IsS126.drewN | apply IsS126.drew | apply IsS126.set_1 | apply IsS126.set_2 | refine IsS126.far ?_ NB0_166.out _) | exact HI0.out))) : g ≠ gb178)); have n12_ := Aside0.mk ((by rw [hg]; exact Nat.ne_of_gt (IsS126.lt (show IsS126 w0 _ g s0_0 t171 t172 from by repeat (first | (with_reducible first | exact HI0.out | apply IsS126.alloc | apply IsS126.drewN | apply IsS126.drew | apply IsS126.set_1 | apply IsS126.set_2 | refine IsS126.far ?_ NB0_166.out _) | exact HI0.out))) : gb178 ≠ g)); clear HO169; clear HO177; clear HI0; clear BK166; clear HK; clear HB; have HO169 := n0_; have HO177 := n1_; have HI0 := n2_; have BK166 := n3_; have HK := n4_; have HB := n5_; have BK178 := n6_; have GW178 := n7_; have GE178 := n8_; have NB166_178 := n9_; have NB178_166 := n10_; have NB0_178 := n11_; have NB178_0 := n12_; clear n0_ n1_ n2_ n3_ n4_ n5_ n6_ n7_ n8_ n9_ n10_ n11_ n12_; clear hb hbox hg; have hnb33 := NB178_166.out; have hnc33 := NB166_178.out; have hnb34 := NB178_0.out; have hnc34 := NB0_178.out; have hcz35_0 : w32.cell? ⟨gb178, 0, none⟩ = some (.int .i64 0) := (blk_cell BK178.out 0).trans rfl; have hcz35_1 : w32.cell? ⟨gb178, 1, none⟩ = some (.int .i64 0) := (blk_cell BK178.out 1).trans rfl; have hcz35_2 : w32.cell? ⟨gb178, 2, none⟩ = some (.slice none 0 0) := (blk_cell BK178.out 2).trans rfl; have hfz35_0 := blk_frozen BK178.out 0; have hfz35_1 := blk_frozen BK178.out 1; have hfz35_2 := blk_frozen BK178.out 2; obtain ⟨Ao36, co36, eo36⟩ := Kd.R_slice HO177.out; subst eo36) | ((with_reducible refine gate_callee (f := 73) rfl ?_); refine goesL_ (some 12) rfl rfl Try.func73 (by kernel_rfl) rfl #[.pointer (some ⟨g, 0, none⟩), .int .i64 4] rfl qm ?_; (with_reducible refine (spec_l01Below.calls g s0_0 t171 t172 4 t179 t180 t181 w0 _ ?side1 ?side2 A18.out).mono ?_); (case side1 => repeat (first | (with_reducible first | exact HI0.out | apply IsS126.alloc | apply IsS126.drewN | apply IsS126.drew | apply IsS126.set_1 | apply IsS126.set_2 | refine IsS126.far ?_ NB0_166.out _ | refine IsS126.far ?_ NB0_178.out _) | exact HI0.out)); (case side2 => repeat (first | (with_reducible first | exact HB.out | apply below_alloc | apply pw_below_drewN | apply below_drew1 | refine below_set ?_ (IsS126.ge HI0.out) | refine below_set ?_ GE166.out | refine below_set ?_ GE178.out) | exact HB.out)); rintro e w37 ⟨rfl, hi, hb, hk⟩; refine ⟨_, rfl, ?_⟩; have n0_ := Aside0.mk (KeepBut.blk hk (g' := gb166) (o := .cells #[.int .i64 0, .int .i64 0, .slice none 0 0] 34 (0, 0)) (by refine qK ?_; refine blk_far ?_ NB166_178.out _; refine qK ?_; refine blk_far ?_ NB166_178.out _; refine qK ?_; refine blk_far ?_ NB166_178.out _; refine qK ?_; exact BK166.out) NB166_0.out (by simp)); have n1_ := Aside0.mk (Kd.R_mono (Kd.R_keep (IsS126.apart (show IsS126 w0 _ g s0_0 t171 t172 from by repeat (first | (with_reducible first | exact HI0.out | apply IsS126.alloc | apply IsS126.drewN | apply IsS126.drew | apply IsS126.set_1 | apply IsS126.set_2 | refine IsS126.far ?_ NB0_166.out _ | refine IsS126.far ?_ NB0_178.out _) | exact HI0.out)) (by refine qR ?_; exact (Kd.R_mono (Kd.R_far (p := ⟨gb178, 2, none⟩) (Kd.R_far (p := ⟨gb178, 1, none⟩) (Kd.R_far (p := ⟨gb178, 0, none⟩) (Kd.R_types HO169.out BK178.out (by decide)) (fun _ hk => hk.2) (.int .i64 t173)) (fun _ hk => hk.2) (.int .i64 t174)) (fun _ hk => hk.2) (.slice Ao36 t175.length co36)) (fun _ h_ => h_.1))) (by decide)) hk (fun _ h => h.2)) (fun _ h => h.1)); have n2_ := Aside0.mk (Kd.R_mono (Kd.R_keep (IsS126.apart (show IsS126 w0 _ g s0_0 t171 t172 from by repeat (first | (with_reducible first | exact HI0.out | apply IsS126.alloc | apply IsS126.drewN | apply IsS126.drew | apply IsS126.set_1 | apply IsS126.set_2 | refine IsS126.far ?_ NB0_166.out _ | refine IsS126.far ?_ NB0_178.out _) | exact HI0.out)) (by refine qR ?_; exact (Kd.R_mono (Kd.R_far (p := ⟨gb178, 2, none⟩) (Kd.R_far (p := ⟨gb178, 1, none⟩) (Kd.R_far (p := ⟨gb178, 0, none⟩) (Kd.R_types HO177.out BK178.out (by decide)) (fun _ hk => hk.2) (.int .i64 t173)) (fun _ hk => hk.2) (.int .i64 t174)) (fun _ hk => hk.2) (.slice Ao36 t175.length co36)) (fun _ h_ => h_.1))) (by decide)) hk (fun _ h => h.2)) (fun _ h => h.1)); have n3_ := Aside0.mk (KeepBut.blk hk (g' := gb178) (o := .cells #[.int .i64 t173, .int .i64 t174, .slice Ao36 t175.length co36] 34 (0, 0)) (by refine qK ?_; refine blk_put (cs := #[.int .i64 t173, .int .i64 t174, .slice none 0 0]) ?_ 2 _ rfl; refine qK ?_; refine blk_put (cs := #[.int .i64 t173, .int .i64 0, .slice none 0 0]) ?_ 1 _ rfl; refine qK ?_; refine blk_put (cs := #[.int .i64 0, .int .i64 0, .slice none 0 0]) ?_ 0 _ rfl; refine qK ?_; exact BK178.out) NB178_0.out (by simp)); have n4_ := Aside0.mk (KeepBut.trans (qh2 HK.out GW166.out GW178.out) hk (.inl rfl)); have n5_ := Aside0.mk (hb); have n6_ := Aside0.mk (hi); clear BK166; clear HO169; clear HO177; clear BK178; clear HK; clear HB; clear HI0; have BK166 := n0_; have HO169 := n1_; have HO177 := n2_; have BK178 := n3_; have HK := n4_; have HB := n5_; have HI0 := n6_; clear n0_ n1_ n2_ n3_ n4_ n5_ n6_; (try clear hb); (try clear hb2); (try clear hk); (try clear hi); have hcz38_0 : w37.cell? ⟨gb178, 0, none⟩ = some (.int .i64 t173) := (blk_cell BK178.out 0).trans rfl; have hcz38_1 : w37.cell? ⟨gb178, 1, none⟩ = some (.int .i64 t174) := (blk_cell BK178.out 1).trans rfl; have hcz38_2 : w37.cell? ⟨gb178, 2, none⟩ = some (.slice Ao36 t175.length co36) := (blk_cell BK178.out 2).trans rfl; have hfz38_0 := blk_frozen BK178.out 0; have hfz38_1 := blk_frozen BK178.out 1; have hfz38_2 := blk_frozen BK178.out 2))
    have n0_ : Aside0 (Kd.R (Kd.int .i64) 3 (w37.setCell ⟨gb178, 1, none⟩ (.int .i64 t179)) w.heap.size (fun k_ => some k_ ≠ (.slice Ao36 t175.length co36 : Value).ownBlock) (.slice Ao29 y167.length co29) y167) := ⟨by refine qR ?_; exact Kd.R_mono (Kd.R_far (p := ⟨gb178, 1, none⟩) (Kd.R_types HO169.out BK178.out (by decide)) (fun _ hk => hk.2) (.int .i64 t179)) (fun _ hk => hk.1.2)⟩
    have n1_ : Aside0 (Kd.R (Kd.int .i64) 3 (w37.setCell ⟨gb178, 1, none⟩ (.int .i64 t179)) w.heap.size (fun k_ => some k_ ≠ (.slice Ao29 y167.length co29 : Value).ownBlock) (.slice Ao36 t175.length co36) t175) := ⟨by refine qR ?_; exact Kd.R_mono (Kd.R_far (p := ⟨gb178, 1, none⟩) (Kd.R_types HO177.out BK178.out (by decide)) (fun _ hk => hk.2) (.int .i64 t179)) (fun _ hk => hk.1.2)⟩
    have n2_ : Aside0 ((w37.setCell ⟨gb178, 1, none⟩ (.int .i64 t179)).heap[gb166]? = some (.cells #[.int .i64 0, .int .i64 0, .slice none 0 0] 34 (0, 0))) := ⟨by refine qK ?_; refine blk_far ?_ NB166_178.out _; refine qK ?_; exact BK166.out⟩
    have n3_ : Aside0 ((w37.setCell ⟨gb178, 1, none⟩ (.int .i64 t179)).heap[gb178]? = some (.cells #[.int .i64 t173, .int .i64 t179, .slice Ao36 t175.length co36] 34 (0, 0))) := ⟨by refine qK ?_; refine blk_put (cs := #[.int .i64 t173, .int .i64 t174, .slice Ao36 t175.length co36]) ?_ 1 _ rfl; refine qK ?_; exact BK178.out⟩
    have n4_ : Aside0 (IsS126 w0 (w37.setCell ⟨gb178, 1, none⟩ (.int .i64 t179)) g s0_0 t180 t181) := ⟨by repeat (first | (with_reducible first | exact HI0.out | apply IsS126.alloc | apply IsS126.drewN | apply IsS126.drew | apply IsS126.set_1 | apply IsS126.set_2 | refine IsS126.far ?_ NB0_166.out _ | refine IsS126.far ?_ NB0_178.out _) | exact HI0.out)⟩
    have n5_ : Aside0 (KeepBut w (w37.setCell ⟨gb178, 1, none⟩ (.int .i64 t179)) g none) := ⟨qh2 HK.out GW166.out GW178.out⟩
    have n6_ : Aside0 (Below w0.heap.size w0 (w37.setCell ⟨gb178, 1, none⟩ (.int .i64 t179))) := ⟨qb3 HB.out (IsS126.ge HI0.out) GE166.out GE178.out⟩
    (try clear HO169)
    (try clear HO177)
    (try clear BK166)
    (try clear BK178)
    (try clear HI0)
    (try clear HK)
    (try clear HB)
    generalize (w37.setCell ⟨gb178, 1, none⟩ (.int .i64 t179)) = w39 at n0_ n1_ n2_ n3_ n4_ n5_ n6_ ⊢
    have HO169 := n0_
    have HO177 := n1_
    have BK166 := n2_
    have BK178 := n3_
    have HI0 := n4_
    have HK := n5_
    have HB := n6_
    clear n0_ n1_ n2_ n3_ n4_ n5_ n6_
    have n0_ := Aside0.mk (Kd.R_drew HO169.out)
    have n1_ := Aside0.mk (Kd.R_drew HO177.out)
    have n2_ := Aside0.mk (blk_drew BK166.out)
    have n3_ := Aside0.mk (blk_drew BK178.out)
    have n4_ := Aside0.mk (IsS126.drew HI0.out)
    have n5_ := Aside0.mk (keep_drew HK.out)
    have n6_ := Aside0.mk (below_drew1 HB.out)
    clear HO169
    clear HO177
    clear BK166
    clear BK178
    clear HI0
    clear HK
    clear HB
    have HO169 := n0_
    have HO177 := n1_
    have BK166 := n2_
    have BK178 := n3_
    have HI0 := n4_
    have HK := n5_
    have HB := n6_
    clear n0_ n1_ n2_ n3_ n4_ n5_ n6_
    refine start_ (n := 6) (S := fun w' => w'.cell? ⟨gb178, 0, none⟩ = some (.int .i64 t173) ∧ w'.cell? ⟨gb178, 1, none⟩ = some (.int .i64 t179) ∧ w'.cell? ⟨gb178, 2, none⟩ = some (.slice Ao36 t175.length co36)) (ds := [5]) #[false, false, false, false, false, false] (by kernel_rfl) rfl rfl ⟨(blk_cell BK178.out 0).trans rfl, (blk_cell BK178.out 1).trans rfl, (blk_cell BK178.out 2).trans rfl⟩ (fun hHeld => ?_)
    generalize w39.drew = w40 at HO169 HO177 BK166 BK178 HI0 HK HB hHeld ⊢
    refine pure_ (i := 0) (N := some 14) (v := ?_) (a' := ?_) #[true, false, false, false, false, false] rfl rfl (by kernel_rfl) (fun _ _ _ h => h) (Or.inl ⟨by rfl, ?_⟩) ?_ ?_
    rotate_left
    ·intro w'
     go_simp
     with_reducible rfl
    rotate_left
    ·refine qp ?_
     rfl
    refine pure_ (i := 2) (N := some 16) (v := ?_) (a' := ?_) #[true, false, true, false, false, false] rfl rfl (by kernel_rfl) (fun _ _ _ h => h) (Or.inl ⟨by rfl, ?_⟩) ?_ ?_
    rotate_left
    ·intro w'
     go_simp
     with_reducible rfl
    rotate_left
    ·refine qp ?_
     rfl
    refine take_ (i := 1) (N := some 15) (v := ?_) (a' := ?_) #[true, true, true, false, false, false] rfl rfl (by kernel_rfl) (fun _ _ _ h => h) (Or.inl ⟨by rfl, ?_⟩) hHeld ?_ ?_
    rotate_left
    ·rintro w' ⟨s0, s1, s2⟩
     go_simp
     with_reducible rfl
    rotate_left
    ·refine qp ?_
     rfl
    refine one_ (i := 3) (N := some 17) #[true, true, true, true, false, false] rfl rfl (by kernel_rfl) (by decide) (fun K hK => ?_)
    refine goes_ Try.func73 (by kernel_rfl) rfl #[.pointer (some ⟨g, 0, none⟩), .int .i64 17] (by rfl) rfl rfl qm ?_
    with_reducible refine (spec_l01Below.calls g s0_0 t180 t181 17 t182 t183 t184 w0 _ ?side1 ?side2 A19.out).mono ?_
    (case side1 => repeat (first | (with_reducible first | exact HI0.out | apply IsS126.alloc | apply IsS126.drewN | apply IsS126.drew | apply IsS126.set_1 | apply IsS126.set_2 | refine IsS126.far ?_ NB0_166.out _ | refine IsS126.far ?_ NB0_178.out _) | exact HI0.out))
    (case side2 => repeat (first | (with_reducible first | exact HB.out | apply below_alloc | apply pw_below_drewN | apply below_drew1 | refine below_set ?_ (IsS126.ge HI0.out) | refine below_set ?_ GE166.out | refine below_set ?_ GE178.out) | exact HB.out))
    rintro e w41 ⟨rfl, hi, hb, hk⟩
    refine ⟨_, rfl, ?_⟩
    have n0_ := Aside0.mk (KeepBut.blk hk (g' := gb166) (o := .cells #[.int .i64 0, .int .i64 0, .slice none 0 0] 34 (0, 0)) (qk BK166.out) NB166_0.out (by simp))
    have n1_ := Aside0.mk (Kd.R_mono (Kd.R_keep (IsS126.apart (show IsS126 w0 _ g s0_0 t180 t181 from by repeat (first | (with_reducible first | exact HI0.out | apply IsS126.alloc | apply IsS126.drewN | apply IsS126.drew | apply IsS126.set_1 | apply IsS126.set_2 | refine IsS126.far ?_ NB0_166.out _ | refine IsS126.far ?_ NB0_178.out _) | exact HI0.out)) (qr HO169.out) (by decide)) hk (fun _ h => h.2)) (fun _ h => h.1))
    have n2_ := Aside0.mk (Kd.R_mono (Kd.R_keep (IsS126.apart (show IsS126 w0 _ g s0_0 t180 t181 from by repeat (first | (with_reducible first | exact HI0.out | apply IsS126.alloc | apply IsS126.drewN | apply IsS126.drew | apply IsS126.set_1 | apply IsS126.set_2 | refine IsS126.far ?_ NB0_166.out _ | refine IsS126.far ?_ NB0_178.out _) | exact HI0.out)) (qr HO177.out) (by decide)) hk (fun _ h => h.2)) (fun _ h => h.1))
    have n3_ := Aside0.mk (KeepBut.blk hk (g' := gb178) (o := .cells #[.int .i64 t173, .int .i64 t179, .slice Ao36 t175.length co36] 34 (0, 0)) (qk BK178.out) NB178_0.out (by simp))
    have n4_ := Aside0.mk (KeepBut.trans (qh2 HK.out GW166.out GW178.out) hk (.inl rfl))
    have n5_ := Aside0.mk (hb)
    have n6_ := Aside0.mk (hi)
    clear BK166
    clear HO169
    clear HO177
    clear BK178
    clear HK
    clear HB
    clear HI0
    have BK166 := n0_
    have HO169 := n1_
    have HO177 := n2_
    have BK178 := n3_
    have HK := n4_
    have HB := n5_
    have HI0 := n6_
    clear n0_ n1_ n2_ n3_ n4_ n5_ n6_
    (try clear hb)
    (try clear hb2)
    (try clear hk)
    (try clear hi)
    have p21 : 0 ≤ (0 : Int) := (by omega)
    have q21 : (0 : Int) < ((t175.length : Int) : Int) := qo
    have qi21 : (0 < t175.length) = True := eq_true (by omega)
    obtain ⟨go21, co21, eo21, gb21, gl21, cl21, HG21⟩ := Kd.R_form HO177.out (by omega)
    (first | cases eo21 | (injection eo21 with ea_ en_ ec_; (first | subst ea_ | (injection ea_ with ea_; subst ea_)); subst ec_; clear en_))
    have GB21 := Aside0.mk gb21
    have GG21 := Aside0.mk HG21
    clear gb21 gl21 HG21
    obtain ⟨hx21_0, hf21_0⟩ := Kd.R_celln 0 HO177.out (0 : Int) p21 q21
    (try rw [show ((0 : Int)).toNat = 0 from rfl] at hx21_0)
    (try simp only [Nat.reduceMul, Nat.zero_mul, Nat.zero_add, Nat.reduceAdd] at hx21_0)
    (try rw [show ((0 : Int)).toNat = 0 from rfl] at hf21_0)
    (try simp only [Nat.reduceMul, Nat.zero_mul, Nat.zero_add, Nat.reduceAdd] at hf21_0)
    replace p21 := eq_true p21
    replace q21 := eq_true q21
    have HN0_go21 := Aside0.mk (show g ≠ go21 from by have h_ := IsS126.own_ne HI0.out HO177.out (by decide); intro e_; exact h_ (by rw [e_]; rfl))
    have HP42 := Kd.R_putn HO177.out (0 : Int) t182
    rw [← Ny185.out] at HP42
    have HQ42 := Aside0.mk HP42
    clear HP42
    refine hK.out _ _ ⟨(blk_cell BK178.out 0).trans rfl, (blk_cell BK178.out 1).trans rfl, (blk_cell BK178.out 2).trans rfl⟩ (fun hHeld => ?_)
    clear hK K
    refine norm_ (a' := ?_) ?_ ?_
    rotate_left
    ·show Act.put _ (some 17) _ = _
     refine qp ?_
     rfl
    refine pure_ (i := 4) (N := some 18) (v := ?_) (a' := ?_) #[true, true, true, true, true, false] rfl rfl (by kernel_rfl) (fun _ _ _ h => h) (Or.inl ⟨by rfl, ?_⟩) ?_ ?_
    rotate_left
    ·intro w'
     go_simp
     with_reducible rfl
    rotate_left
    ·refine qp ?_
     rfl
    refine last_ (i := 5) (N := none) #[true, true, true, true, true, true] rfl rfl (by kernel_rfl) (by decide) (fun K hK => ?_)
    refine skip_ (w1 := ?_) (by rfl) rfl ?_ ?_
    rotate_left
    ·go_simp
     rfl
    refine hK.out _ _ ?_
    clear hK K
    refine done_ (by kernel_rfl) ?_
    have n0_ : Aside0 (Kd.R (Kd.int .i64) 3 (w41.setCell ⟨go21, 0, none⟩ (.int .i64 t182)) w.heap.size (fun k_ => some k_ ≠ (.slice (some ⟨go21, 0, none⟩) t175.length co36 : Value).ownBlock) (.slice Ao29 y167.length co29) y167) := ⟨by refine qR ?_; exact Kd.R_mono (Kd.R_far (p := ⟨go21, 0, none⟩) (Kd.R_mono HO169.out (fun k_ hk => (⟨hk, fun e_ => hk (by rw [e_]; rfl)⟩ : _ ∧ k_ ≠ go21))) (fun _ hk => hk.2) (.int .i64 t182)) (fun _ hk => hk.1)⟩
    have n1_ : Aside0 (Kd.R (Kd.int .i64) 3 (w41.setCell ⟨go21, 0, none⟩ (.int .i64 t182)) w.heap.size (fun k_ => some k_ ≠ (.slice Ao29 y167.length co29 : Value).ownBlock) (.slice (some ⟨go21, 0, none⟩) t175.length co36) y185) := ⟨qr HQ42.out⟩
    have n2_ : Aside0 ((w41.setCell ⟨go21, 0, none⟩ (.int .i64 t182)).heap[gb166]? = some (.cells #[.int .i64 0, .int .i64 0, .slice none 0 0] 34 (0, 0))) := ⟨by refine qK ?_; refine blk_far ?_ (by have h_ := Kd.R_ne HO177.out BK166.out (by decide); intro e_; exact h_ (by rw [e_]; rfl)) _; refine qK ?_; exact BK166.out⟩
    have n3_ : Aside0 ((w41.setCell ⟨go21, 0, none⟩ (.int .i64 t182)).heap[gb178]? = some (.cells #[.int .i64 t173, .int .i64 t179, .slice (some ⟨go21, 0, none⟩) t175.length co36] 34 (0, 0))) := ⟨by refine qK ?_; refine blk_far ?_ (by have h_ := Kd.R_ne HO177.out BK178.out (by decide); intro e_; exact h_ (by rw [e_]; rfl)) _; refine qK ?_; exact BK178.out⟩
    have n4_ : Aside0 (IsS126 w0 (w41.setCell ⟨go21, 0, none⟩ (.int .i64 t182)) g s0_0 t183 t184) := ⟨by repeat (first | (with_reducible first | exact HI0.out | apply IsS126.alloc | apply IsS126.drewN | apply IsS126.drew | apply IsS126.set_1 | apply IsS126.set_2 | refine IsS126.far ?_ HN0_go21.out _ | refine IsS126.far ?_ NB0_166.out _ | refine IsS126.far ?_ NB0_178.out _) | exact HI0.out)⟩
    have n5_ : Aside0 (KeepBut w (w41.setCell ⟨go21, 0, none⟩ (.int .i64 t182)) g none) := ⟨qh3 HK.out GB21.out GW166.out GW178.out⟩
    have n6_ : Aside0 (Below w0.heap.size w0 (w41.setCell ⟨go21, 0, none⟩ (.int .i64 t182))) := ⟨by repeat (first | (with_reducible first | exact HB.out | apply below_alloc | apply pw_below_drewN | apply below_drew1 | refine below_set ?_ (Nat.le_trans HL.out GB21.out) | refine below_set ?_ (IsS126.ge HI0.out) | refine below_set ?_ GE166.out | refine below_set ?_ GE178.out) | exact HB.out)⟩
    (try clear HO169)
    (try clear HO177)
    (try clear BK166)
    (try clear BK178)
    (try clear HI0)
    (try clear HK)
    (try clear HB)
    generalize (w41.setCell ⟨go21, 0, none⟩ (.int .i64 t182)) = w43 at n0_ n1_ n2_ n3_ n4_ n5_ n6_ ⊢
    have HO169 := n0_
    have HO177 := n1_
    have BK166 := n2_
    have BK178 := n3_
    have HI0 := n4_
    have HK := n5_
    have HB := n6_
    clear n0_ n1_ n2_ n3_ n4_ n5_ n6_
    try go_wp2
    have n0_ := Aside0.mk (Kd.R_drew HO169.out)
    have n1_ := Aside0.mk (Kd.R_drew HO177.out)
    have n2_ := Aside0.mk (blk_drew BK166.out)
    have n3_ := Aside0.mk (blk_drew BK178.out)
    have n4_ := Aside0.mk (IsS126.drew HI0.out)
    have n5_ := Aside0.mk (keep_drew HK.out)
    have n6_ := Aside0.mk (below_drew1 HB.out)
    clear HO169
    clear HO177
    clear BK166
    clear BK178
    clear HI0
    clear HK
    clear HB
    have HO169 := n0_
    have HO177 := n1_
    have BK166 := n2_
    have BK178 := n3_
    have HI0 := n4_
    have HK := n5_
    have HB := n6_
    clear n0_ n1_ n2_ n3_ n4_ n5_ n6_
    refine start_ (n := 9) (S := fun w' => w'.cell? ⟨gb178, 0, none⟩ = some (.int .i64 t173) ∧ w'.cell? ⟨gb178, 1, none⟩ = some (.int .i64 t179) ∧ w'.cell? ⟨gb178, 2, none⟩ = some (.slice (some ⟨go21, 0, none⟩) t175.length co36)) (ds := [8]) #[false, false, false, false, false, false, false, false, false] (by kernel_rfl) rfl rfl ⟨(blk_cell BK178.out 0).trans rfl, (blk_cell BK178.out 1).trans rfl, (blk_cell BK178.out 2).trans rfl⟩ (fun hHeld => ?_); refine with_tabW spec_l03Inode.tab5 spec_l03Inode.bits5 (fun HT_ HW_ => ?_)
    generalize w43.drew = w44 at HO169 HO177 BK166 BK178 HI0 HK HB hHeld ⊢
    refine pure_ (i := 0) (N := some 19) (v := ?_) (a' := ?_) #[true, false, false, false, false, false, false, false, false] rfl rfl (any_of HT_.out (by kernel_rfl)) (fun _ _ _ h => h) (Or.inl ⟨by rfl, ?_⟩) ?_ ?_
    rotate_left
    ·intro w'
     go_simp
     with_reducible rfl
    rotate_left
    ·refine qp ?_
     rfl
    refine pure_ (i := 2) (N := some 21) (v := ?_) (a' := ?_) #[true, false, true, false, false, false, false, false, false] rfl rfl (any_of HT_.out (by kernel_rfl)) (fun _ _ _ h => h) (Or.inl ⟨by rfl, ?_⟩) ?_ ?_
    rotate_left
    ·intro w'
     go_simp
     with_reducible rfl
    rotate_left
    ·refine qp ?_
     rfl
    refine pure_ (i := 3) (N := some 22) (v := ?_) (a' := ?_) #[true, false, true, true, false, false, false, false, false] rfl rfl (any_of HT_.out (by kernel_rfl)) (fun _ _ _ h => h) (Or.inl ⟨by rfl, ?_⟩) ?_ ?_
    rotate_left
    ·intro w'
     go_simp
     with_reducible rfl
    rotate_left
    ·refine qp ?_
     rfl
    refine take_ (i := 1) (N := some 20) (v := ?_) (a' := ?_) #[true, true, true, true, false, false, false, false, false] rfl rfl (take_ofW HT_.out HW_.out (by kernel_rfl)) (fun _ _ _ h => h) (Or.inl ⟨by rfl, ?_⟩) hHeld ?_ ?_
    rotate_left
    ·rintro w' ⟨s0, s1, s2⟩
     go_simp
     with_reducible rfl
    rotate_left
    ·refine qp ?_
     rfl
    refine one_ (i := 4) (N := some 23) #[true, true, true, true, true, false, false, false, false] rfl rfl (one_of HT_.out (by kernel_rfl)) (by decide) (fun K hK => ?_)
    refine goes_ Try.func73 (by kernel_rfl) rfl #[.pointer (some ⟨g, 0, none⟩), .int .i64 17] (by rfl) rfl rfl qm ?_
    with_reducible refine (spec_l01Below.calls g s0_0 t183 t184 17 t186 t187 t188 w0 _ ?side1 ?side2 A22.out).mono ?_
    (case side1 => repeat (first | (with_reducible first | exact HI0.out | apply IsS126.alloc | apply IsS126.drewN | apply IsS126.drew | apply IsS126.set_1 | apply IsS126.set_2 | refine IsS126.far ?_ NB0_166.out _ | refine IsS126.far ?_ NB0_178.out _) | exact HI0.out))
    (case side2 => repeat (first | (with_reducible first | exact HB.out | apply below_alloc | apply pw_below_drewN | apply below_drew1 | refine below_set ?_ (IsS126.ge HI0.out) | refine below_set ?_ GE166.out | refine below_set ?_ GE178.out) | exact HB.out))
    rintro e w45 ⟨rfl, hi, hb, hk⟩
    refine ⟨_, rfl, ?_⟩
    have n0_ := Aside0.mk (KeepBut.blk hk (g' := gb166) (o := .cells #[.int .i64 0, .int .i64 0, .slice none 0 0] 34 (0, 0)) (qk BK166.out) NB166_0.out (by simp))
    have n1_ := Aside0.mk (Kd.R_mono (Kd.R_keep (IsS126.apart (show IsS126 w0 _ g s0_0 t183 t184 from by repeat (first | (with_reducible first | exact HI0.out | apply IsS126.alloc | apply IsS126.drewN | apply IsS126.drew | apply IsS126.set_1 | apply IsS126.set_2 | refine IsS126.far ?_ NB0_166.out _ | refine IsS126.far ?_ NB0_178.out _) | exact HI0.out)) (qr HO169.out) (by decide)) hk (fun _ h => h.2)) (fun _ h => h.1))
    have n2_ := Aside0.mk (Kd.R_mono (Kd.R_keep (IsS126.apart (show IsS126 w0 _ g s0_0 t183 t184 from by repeat (first | (with_reducible first | exact HI0.out | apply IsS126.alloc | apply IsS126.drewN | apply IsS126.drew | apply IsS126.set_1 | apply IsS126.set_2 | refine IsS126.far ?_ NB0_166.out _ | refine IsS126.far ?_ NB0_178.out _) | exact HI0.out)) (qr HO177.out) (by decide)) hk (fun _ h => h.2)) (fun _ h => h.1))
    have n3_ := Aside0.mk (KeepBut.blk hk (g' := gb178) (o := .cells #[.int .i64 t173, .int .i64 t179, .slice (some ⟨go21, 0, none⟩) t175.length co36] 34 (0, 0)) (qk BK178.out) NB178_0.out (by simp))
    have n4_ := Aside0.mk (KeepBut.trans (qh2 HK.out GW166.out GW178.out) hk (.inl rfl))
    have n5_ := Aside0.mk (hb)
    have n6_ := Aside0.mk (hi)
    clear BK166
    clear HO169
    clear HO177
    clear BK178
    clear HK
    clear HB
    clear HI0
    have BK166 := n0_
    have HO169 := n1_
    have HO177 := n2_
    have BK178 := n3_
    have HK := n4_
    have HB := n5_
    have HI0 := n6_
    clear n0_ n1_ n2_ n3_ n4_ n5_ n6_
    (try clear hb)
    (try clear hb2)
    (try clear hk)
    (try clear hi)
    refine hK.out _ _ ⟨(blk_cell BK178.out 0).trans rfl, (blk_cell BK178.out 1).trans rfl, (blk_cell BK178.out 2).trans rfl⟩ (fun hHeld => ?_)
    clear hK K
    refine norm_ (a' := ?_) ?_ ?_
    rotate_left
    ·show Act.put _ (some 23) _ = _
     refine qp ?_
     rfl
    refine one_ (i := 5) (N := some 24) #[true, true, true, true, true, true, false, false, false] rfl rfl (one_of HT_.out (by kernel_rfl)) (by decide) (fun K hK => ?_)
    refine Kd.R_lit_step (Kd.int .i64) _ 3 ?hg (N := 24) ?hd (xs := ([0, 0, t186] : List Int)) (inner := [.int .i64 0, .int .i64 0, .int .i64 t186]) (ok := fun _ => True) (okp := fun _ => True) ?hr ?hp (fun _ hk => hk) trivial (Below.refl _ _) (Nat.le_refl _) (by simp) ?_; (case hd => rfl); (case hg => rfl); (case hr => first | (go_simp; done) | (go_simp; rfl)); (case hp => exact (Reps.one (show Kd.M (Kd.int .i64) _ _ _ 0 [.int .i64 0] from rfl) (Reps.one (show Kd.M (Kd.int .i64) _ _ _ 0 [.int .i64 0] from rfl) (Reps.one (show Kd.M (Kd.int .i64) _ _ _ t186 [.int .i64 t186] from rfl) (Reps.none _ _)))))
    intro v190 w46 ho47 hb hg_ hnew_
    clear hg_ hnew_
    (first | rw [← Ny189.out] at ho47 | (simp only [Int.reduceToNat] at ho47; rw [← Ny189.out] at ho47))
    have n0_ := Aside0.mk (Kd.R_elder' (qr HO169.out) (Kd.R_base ho47) hb)
    have n1_ := Aside0.mk (Kd.R_elder' (qr HO177.out) (Kd.R_base ho47) hb)
    have n2_ := Aside0.mk (Kd.R_lower (Kd.R_new' (Kd.R_new' ho47 (Kd.R_lt (qr HO169.out))) (Kd.R_lt (qr HO177.out))) (keep_size (w := w) (g := g) (row := none) (qh2 HK.out GW166.out GW178.out)))
    have n3_ := Aside0.mk (IsS126.below (by repeat (first | (with_reducible first | exact HI0.out | apply IsS126.alloc | apply IsS126.drewN | apply IsS126.drew | apply IsS126.set_1 | apply IsS126.set_2 | refine IsS126.far ?_ NB0_166.out _ | refine IsS126.far ?_ NB0_178.out _) | exact HI0.out)) hb)
    have n4_ := Aside0.mk (blk_below (g := gb166) (o := .cells #[.int .i64 0, .int .i64 0, .slice none 0 0] 34 (0, 0)) (qk BK166.out) hb)
    have n5_ := Aside0.mk (blk_below (g := gb178) (o := .cells #[.int .i64 t173, .int .i64 t179, .slice (some ⟨go21, 0, none⟩) t175.length co36] 34 (0, 0)) (qk BK178.out) hb)
    have n6_ := Aside0.mk (KeepBut.trans (qh2 HK.out GW166.out GW178.out) (KeepBut.of_below hb g none) (.inl rfl))
    have n7_ := Aside0.mk (below_step (qb3 HB.out (IsS126.ge HI0.out) GE166.out GE178.out) hb)
    clear HO169
    clear HO177
    clear HI0
    clear BK166
    clear BK178
    clear HK
    clear HB
    have HO169 := n0_
    have HO177 := n1_
    have HO191 := n2_
    have HI0 := n3_
    have BK166 := n4_
    have BK178 := n5_
    have HK := n6_
    have HB := n7_
    clear n0_ n1_ n2_ n3_ n4_ n5_ n6_ n7_
    clear hb ho47
    obtain ⟨Ao48, co48, eo48⟩ := Kd.R_slice HO191.out
    (first | subst eo48 | (injection eo48 with f1_ f2_ f3_; have f4_ := f1_.symm; have f5_ := f3_.symm; clear f1_ f2_ f3_; subst f4_; subst f5_))
    refine hK.out _ _ ⟨(blk_cell BK178.out 0).trans rfl, (blk_cell BK178.out 1).trans rfl, (blk_cell BK178.out 2).trans rfl⟩ (fun hHeld => ?_)
    clear hK K
    refine norm_ (a' := ?_) ?_ ?_
    rotate_left
    ·show Act.put _ (some 24) _ = _
     refine qp ?_
     rfl
    refine one_ (i := 6) (N := some 25) #[true, true, true, true, true, true, true, false, false] rfl rfl (one_of HT_.out (by kernel_rfl)) (by decide) (fun K hK => ?_)
    refine goes_ Try.func92 (by kernel_rfl) rfl #[.pointer (some ⟨g, 0, none⟩), .slice Ao48 y189.length co48] (by rfl) rfl rfl qm ?_
    with_reducible refine (spec_l01PickInt.calls g s0_0 t187 t188 _ _ y189 t192 t193 t194 w0 _ ?side1 ?side2 ?side3 ?side4 ?side5 A23.out).mono ?_
    (case side1 => repeat (first | (with_reducible first | exact HI0.out | apply IsS126.alloc | apply IsS126.drewN | apply IsS126.drew | apply IsS126.set_1 | apply IsS126.set_2 | refine IsS126.far ?_ NB0_166.out _ | refine IsS126.far ?_ NB0_178.out _) | exact HI0.out))
    (case side2 => repeat (first | (with_reducible first | exact HB.out | apply below_alloc | apply pw_below_drewN | apply below_drew1 | refine below_set ?_ (IsS126.ge HI0.out) | refine below_set ?_ GE166.out | refine below_set ?_ GE178.out) | exact HB.out))
    (case side3 => repeat (first | exact (Kd.R_reads' HO191.out).2.2 | (with_reducible refine Kd.C_alloc ?_ _) | (with_reducible refine Kd.C_drewN ?_ _) | (with_reducible refine Kd.C_drew ?_)))
    (case side4 => exact (Kd.R_reads' HO191.out).2.1)
    (case side5 => exact far_slice (IsS126.own_ne HI0.out HO191.out (by decide)))
    rintro e w49 ⟨rfl, hi, hb, hk⟩
    refine ⟨_, rfl, ?_⟩
    have n0_ := Aside0.mk (KeepBut.blk hk (g' := gb166) (o := .cells #[.int .i64 0, .int .i64 0, .slice none 0 0] 34 (0, 0)) (qk BK166.out) NB166_0.out (by simp))
    have n1_ := Aside0.mk (Kd.R_mono (Kd.R_keep (IsS126.apart (show IsS126 w0 _ g s0_0 t187 t188 from by repeat (first | (with_reducible first | exact HI0.out | apply IsS126.alloc | apply IsS126.drewN | apply IsS126.drew | apply IsS126.set_1 | apply IsS126.set_2 | refine IsS126.far ?_ NB0_166.out _ | refine IsS126.far ?_ NB0_178.out _) | exact HI0.out)) (qr HO169.out) (by decide)) hk (fun _ h => h.2)) (fun _ h => h.1))
    have n2_ := Aside0.mk (Kd.R_mono (Kd.R_keep (IsS126.apart (show IsS126 w0 _ g s0_0 t187 t188 from by repeat (first | (with_reducible first | exact HI0.out | apply IsS126.alloc | apply IsS126.drewN | apply IsS126.drew | apply IsS126.set_1 | apply IsS126.set_2 | refine IsS126.far ?_ NB0_166.out _ | refine IsS126.far ?_ NB0_178.out _) | exact HI0.out)) (qr HO177.out) (by decide)) hk (fun _ h => h.2)) (fun _ h => h.1))
    have n3_ := Aside0.mk (KeepBut.blk hk (g' := gb178) (o := .cells #[.int .i64 t173, .int .i64 t179, .slice (some ⟨go21, 0, none⟩) t175.length co36] 34 (0, 0)) (qk BK178.out) NB178_0.out (by simp))
    have n4_ := Aside0.mk (Kd.R_mono (Kd.R_keep (IsS126.apart (show IsS126 w0 _ g s0_0 t187 t188 from by repeat (first | (with_reducible first | exact HI0.out | apply IsS126.alloc | apply IsS126.drewN | apply IsS126.drew | apply IsS126.set_1 | apply IsS126.set_2 | refine IsS126.far ?_ NB0_166.out _ | refine IsS126.far ?_ NB0_178.out _) | exact HI0.out)) (qr HO191.out) (by decide)) hk (fun _ h => h.2)) (fun _ h => h.1))
    have n5_ := Aside0.mk (KeepBut.trans (qh2 HK.out GW166.out GW178.out) hk (.inl rfl))
    have n6_ := Aside0.mk (hb)
    have n7_ := Aside0.mk (hi)
    clear BK166
    clear HO169
    clear HO177
    clear BK178
    clear HO191
    clear HK
    clear HB
    clear HI0
    have BK166 := n0_
    have HO169 := n1_
    have HO177 := n2_
    have BK178 := n3_
    have HO191 := n4_
    have HK := n5_
    have HB := n6_
    have HI0 := n7_
    clear n0_ n1_ n2_ n3_ n4_ n5_ n6_ n7_
    (try clear hb)
    (try clear hb2)
    (try clear hk)
    (try clear hi)
    have p25 : 0 ≤ (1 : Int) := (by omega)
    have q25 : (1 : Int) < ((t175.length : Int) : Int) := qo
    have qi25 : (1 < t175.length) = True := eq_true (by omega)
    obtain ⟨hx25_0, hf25_0⟩ := Kd.R_celln 0 HO177.out (1 : Int) p25 q25
    (try rw [show ((1 : Int)).toNat = 1 from rfl] at hx25_0)
    (try simp only [Nat.reduceMul, Nat.zero_mul, Nat.zero_add, Nat.reduceAdd] at hx25_0)
    (try rw [show ((1 : Int)).toNat = 1 from rfl] at hf25_0)
    (try simp only [Nat.reduceMul, Nat.zero_mul, Nat.zero_add, Nat.reduceAdd] at hf25_0)
    replace p25 := eq_true p25
    replace q25 := eq_true q25
    have HN0_go21 := Aside0.mk (show g ≠ go21 from by have h_ := IsS126.own_ne HI0.out HO177.out (by decide); intro e_; exact h_ (by rw [e_]; rfl))
    have HP50 := Kd.R_putn HO177.out (1 : Int) t192
    rw [← Ny195.out] at HP50
    have HQ50 := Aside0.mk HP50
    clear HP50
    refine hK.out _ _ ⟨(blk_cell BK178.out 0).trans rfl, (blk_cell BK178.out 1).trans rfl, (blk_cell BK178.out 2).trans rfl⟩ (fun hHeld => ?_)
    clear hK K
    refine norm_ (a' := ?_) ?_ ?_
    rotate_left
    ·show Act.put _ (some 25) _ = _
     refine qp ?_
     rfl
    refine pure_ (i := 7) (N := some 26) (v := ?_) (a' := ?_) #[true, true, true, true, true, true, true, true, false] rfl rfl (any_of HT_.out (by kernel_rfl)) (fun _ _ _ h => h) (Or.inl ⟨by rfl, ?_⟩) ?_ ?_
    rotate_left
    ·intro w'
     go_simp
     with_reducible rfl
    rotate_left
    ·refine qp ?_
     rfl
    refine last_ (i := 8) (N := none) #[true, true, true, true, true, true, true, true, true] rfl rfl (one_of HT_.out (by kernel_rfl)) (by decide) (fun K hK => ?_)
    refine skip_ (w1 := ?_) (by rfl) rfl ?_ ?_
    rotate_left
    ·go_simp
     rfl
    refine hK.out _ _ ?_
    clear hK K
    refine done_ (done_of HT_.out (by kernel_rfl)) ?_
    have n0_ : Aside0 (Kd.R (Kd.int .i64) 3 (w49.setCell ⟨go21, 1, none⟩ (.int .i64 t192)) w.heap.size (fun k_ => some k_ ≠ (.slice (some ⟨go21, 0, none⟩) t175.length co36 : Value).ownBlock ∧ some k_ ≠ (.slice Ao48 y189.length co48 : Value).ownBlock) (.slice Ao29 y167.length co29) y167) := ⟨by refine qR ?_; exact Kd.R_mono (Kd.R_far (p := ⟨go21, 1, none⟩) (Kd.R_mono HO169.out (fun k_ hk => (⟨hk, fun e_ => hk.1 (by rw [e_]; rfl)⟩ : _ ∧ k_ ≠ go21))) (fun _ hk => hk.2) (.int .i64 t192)) (fun _ hk => ⟨hk.1.1, hk.1.2⟩)⟩
    have n1_ : Aside0 (Kd.R (Kd.int .i64) 3 (w49.setCell ⟨go21, 1, none⟩ (.int .i64 t192)) w.heap.size (fun k_ => some k_ ≠ (.slice Ao29 y167.length co29 : Value).ownBlock ∧ some k_ ≠ (.slice Ao48 y189.length co48 : Value).ownBlock) (.slice (some ⟨go21, 0, none⟩) t175.length co36) y195) := ⟨qr HQ50.out⟩
    have n2_ : Aside0 (Kd.R (Kd.int .i64) 3 (w49.setCell ⟨go21, 1, none⟩ (.int .i64 t192)) w.heap.size (fun k_ => some k_ ≠ (.slice Ao29 y167.length co29 : Value).ownBlock ∧ some k_ ≠ (.slice (some ⟨go21, 0, none⟩) t175.length co36 : Value).ownBlock) (.slice Ao48 y189.length co48) y189) := ⟨by refine qR ?_; exact Kd.R_mono (Kd.R_far (p := ⟨go21, 1, none⟩) (Kd.R_mono HO191.out (fun k_ hk => (⟨hk, fun e_ => hk.2 (by rw [e_]; rfl)⟩ : _ ∧ k_ ≠ go21))) (fun _ hk => hk.2) (.int .i64 t192)) (fun _ hk => ⟨hk.1.1.2, hk.1.2⟩)⟩
    have n3_ : Aside0 ((w49.setCell ⟨go21, 1, none⟩ (.int .i64 t192)).heap[gb166]? = some (.cells #[.int .i64 0, .int .i64 0, .slice none 0 0] 34 (0, 0))) := ⟨by refine qK ?_; refine blk_far ?_ (by have h_ := Kd.R_ne HO177.out BK166.out (by decide); intro e_; exact h_ (by rw [e_]; rfl)) _; refine qK ?_; exact BK166.out⟩
    have n4_ : Aside0 ((w49.setCell ⟨go21, 1, none⟩ (.int .i64 t192)).heap[gb178]? = some (.cells #[.int .i64 t173, .int .i64 t179, .slice (some ⟨go21, 0, none⟩) t175.length co36] 34 (0, 0))) := ⟨by refine qK ?_; refine blk_far ?_ (by have h_ := Kd.R_ne HO177.out BK178.out (by decide); intro e_; exact h_ (by rw [e_]; rfl)) _; refine qK ?_; exact BK178.out⟩
    have n5_ : Aside0 (IsS126 w0 (w49.setCell ⟨go21, 1, none⟩ (.int .i64 t192)) g s0_0 t193 t194) := ⟨by repeat (first | (with_reducible first | exact HI0.out | apply IsS126.alloc | apply IsS126.drewN | apply IsS126.drew | apply IsS126.set_1 | apply IsS126.set_2 | refine IsS126.far ?_ HN0_go21.out _ | refine IsS126.far ?_ NB0_166.out _ | refine IsS126.far ?_ NB0_178.out _) | exact HI0.out)⟩
    have n6_ : Aside0 (KeepBut w (w49.setCell ⟨go21, 1, none⟩ (.int .i64 t192)) g none) := ⟨qh3 HK.out GB21.out GW166.out GW178.out⟩
    have n7_ : Aside0 (Below w0.heap.size w0 (w49.setCell ⟨go21, 1, none⟩ (.int .i64 t192))) := ⟨by repeat (first | (with_reducible first | exact HB.out | apply below_alloc | apply pw_below_drewN | apply below_drew1 | refine below_set ?_ (Nat.le_trans HL.out GB21.out) | refine below_set ?_ (IsS126.ge HI0.out) | refine below_set ?_ GE166.out | refine below_set ?_ GE178.out) | exact HB.out)⟩
    (try clear HO169)
    (try clear HO177)
    (try clear HO191)
    (try clear BK166)
    (try clear BK178)
    (try clear HI0)
    (try clear HK)
    (try clear HB)
    generalize (w49.setCell ⟨go21, 1, none⟩ (.int .i64 t192)) = w51 at n0_ n1_ n2_ n3_ n4_ n5_ n6_ n7_ ⊢
    have HO169 := n0_
    have HO177 := n1_
    have HO191 := n2_
    have BK166 := n3_
    have BK178 := n4_
    have HI0 := n5_
    have HK := n6_
    have HB := n7_
    clear n0_ n1_ n2_ n3_ n4_ n5_ n6_ n7_
    have hcz52_0 : w51.cell? ⟨gb178, 0, none⟩ = some (.int .i64 t173) := (blk_cell BK178.out 0).trans rfl
    have hcz52_1 : w51.cell? ⟨gb178, 1, none⟩ = some (.int .i64 t179) := (blk_cell BK178.out 1).trans rfl
    have hcz52_2 : w51.cell? ⟨gb178, 2, none⟩ = some (.slice (some ⟨go21, 0, none⟩) t175.length co36) := (blk_cell BK178.out 2).trans rfl
    have hfz52_0 := blk_frozen BK178.out 0
    have hfz52_1 := blk_frozen BK178.out 1
    have hfz52_2 := blk_frozen BK178.out 2
    have hnb53 := NB166_0.out
    have hnc53 := NB0_166.out
    have hcz54_0 : w51.cell? ⟨gb166, 0, none⟩ = some (.int .i64 0) := (blk_cell BK166.out 0).trans rfl
    have hcz54_1 : w51.cell? ⟨gb166, 1, none⟩ = some (.int .i64 0) := (blk_cell BK166.out 1).trans rfl
    have hcz54_2 : w51.cell? ⟨gb166, 2, none⟩ = some (.slice none 0 0) := (blk_cell BK166.out 2).trans rfl
    have hfz54_0 := blk_frozen BK166.out 0
    have hfz54_1 := blk_frozen BK166.out 1
    have hfz54_2 := blk_frozen BK166.out 2
    try go_wp2
    refine bodyPost_ret (results_cell_row rfl _ _ gb166 34 #[.int .i64 t173, .int .i64 t179, .slice (some ⟨go21, 0, none⟩) t175.length co36] (0, 0) _ rfl (by refine qK ?_; refine blk_put (cs := #[.int .i64 t173, .int .i64 t179, .slice none 0 0]) ?_ 2 _ rfl; refine qK ?_; refine blk_put (cs := #[.int .i64 t173, .int .i64 0, .slice none 0 0]) ?_ 1 _ rfl; refine qK ?_; refine blk_put (cs := #[.int .i64 0, .int .i64 0, .slice none 0 0]) ?_ 0 _ rfl; refine qK ?_; exact BK166.out) Try.underlying34 rfl (by kernel_rfl)) rfl ?_
    exact ⟨_, qe, by refine qR ?_; exact Kd.R_mono (Kd.R_far (p := ⟨gb166, 2, none⟩) (Kd.R_far (p := ⟨gb166, 1, none⟩) (Kd.R_far (p := ⟨gb166, 0, none⟩) (Kd.R_types HO177.out BK166.out (by decide)) (fun _ hk => hk.2) (.int .i64 t173)) (fun _ hk => hk.2) (.int .i64 t179)) (fun _ hk => hk.2) (.slice (some ⟨go21, 0, none⟩) t175.length co36)) (fun _ hk => trivial), by repeat (first | (with_reducible first | exact HI0.out | apply IsS126.alloc | apply IsS126.drewN | apply IsS126.drew | apply IsS126.set_1 | apply IsS126.set_2 | refine IsS126.far ?_ NB0_166.out _ | refine IsS126.far ?_ NB0_178.out _) | exact HI0.out), qb3 HB.out (IsS126.ge HI0.out) GE166.out GE178.out, qh2 HK.out GW166.out GW178.out⟩
   ·rw [if_neg c24] at H
    exact absurd H (by simp)
  ·rw [if_neg c20] at H
   exact absurd H (by simp)

/-! ### spec_l03Any: function 103 -/
def spec_l03Any.f (s0_0 : List Int) (s0_1 : Int) (s0_2 : Int) : Option (Int × Int × List Int × Int × Int) := (spec_l03Inode.f s0_0 s0_1 s0_2).bind fun bt197 => ((spec_l01Below.f s0_0 bt197.2.2.2.1 bt197.2.2.2.2 12).bind fun bt205 => (if bt205.1 = 0 then ((spec_l01PickInt.f s0_0 bt205.2.1 bt205.2.2 (([(-1), 0, 3] : List Int))).bind fun bt211 => (some (bt211.1, bt197.2.1, bt197.2.2.1, bt211.2.1, bt211.2.2))) else (if bt205.1 = 1 then ((spec_l01PickInt.f s0_0 bt205.2.1 bt205.2.2 (([(-1), 0, 200, 201] : List Int))).bind fun bt217 => (some (bt197.1, bt217.1, bt197.2.2.1, bt217.2.1, bt217.2.2))) else (if bt205.1 = 2 then ((spec_l01PickInt.f s0_0 bt205.2.1 bt205.2.2 (([(-1), 16, 17] : List Int))).bind fun bt223 => (if 0 < (bt197.2.2.1.length : Int) then (some (bt197.1, bt197.2.1, (bt197.2.2.1.set (0 : Int).toNat bt223.1), bt223.2.1, bt223.2.2)) else (none))) else (if bt205.1 = 3 then (if 1 ≤ (bt197.2.2.1.length : Int) then (some (bt197.1, bt197.2.1, (bt197.2.2.1.drop (1 : Int).toNat), bt205.2.1, bt205.2.2)) else (none)) else (some (bt197.1, bt197.2.1, bt197.2.2.1, bt205.2.1, bt205.2.2)))))))
set_option maxHeartbeats 8000000 in
set_option maxRecDepth 100000 in
theorem spec_l03Any.calls (g : Nat) (s0_0 : List Int) (s0_1 : Int) (s0_2 : Int) (r1 : Int) (r2 : Int) (r3 : List Int) (r4 : Int) (r5 : Int) (w0 w : World) (hI : IsS126 w0 w g s0_0 s0_1 s0_2) (hB : Below w0.heap.size w0 w) (h : spec_l03Any.f s0_0 s0_1 s0_2 = some (r1, r2, r3, r4, r5)) :
  Calls Try.prog 103 #[.pointer (some ⟨g, 0, none⟩)] w fun e w' => ∃ v2_ : Value, e = .returned (.agg #[.int .i64 r1, .int .i64 r2, v2_]) ∧ Kd.Q (Kd.int .i64) 3 w' w.heap.size (fun _ => True) v2_ r3 ∧ IsS126 w0 w' g s0_0 r4 r5 ∧ Below w0.heap.size w0 w' ∧ KeepBut w w' g none := by
 have hu34 := Try.underlying34
 have HI0 := Aside0.mk hI
 have HK := Aside0.mk (KeepBut.refl w g none)
 have HL := Aside0.mk hB.size
 clear hI
 have HW0 := Aside0.mk hB.size
 have HB := Aside0.mk hB
 clear hB
 have H : ((spec_l03Inode.f s0_0 s0_1 s0_2).bind fun bt197 => ((spec_l01Below.f s0_0 bt197.2.2.2.1 bt197.2.2.2.2 12).bind fun bt205 => (if bt205.1 = 0 then ((spec_l01PickInt.f s0_0 bt205.2.1 bt205.2.2 (([(-1), 0, 3] : List Int))).bind fun bt211 => (some (bt211.1, bt197.2.1, bt197.2.2.1, bt211.2.1, bt211.2.2))) else (if bt205.1 = 1 then ((spec_l01PickInt.f s0_0 bt205.2.1 bt205.2.2 (([(-1), 0, 200, 201] : List Int))).bind fun bt217 => (some (bt197.1, bt217.1, bt197.2.2.1, bt217.2.1, bt217.2.2))) else (if bt205.1 = 2 then ((spec_l01PickInt.f s0_0 bt205.2.1 bt205.2.2 (([(-1), 16, 17] : List Int))).bind fun bt223 => (if 0 < (bt197.2.2.1.length : Int) then (some (bt197.1, bt197.2.1, (bt197.2.2.1.set (0 : Int).toNat bt223.1), bt223.2.1, bt223.2.2)) else (none))) else (if bt205.1 = 3 then (if 1 ≤ (bt197.2.2.1.length : Int) then (some (bt197.1, bt197.2.1, (bt197.2.2.1.drop (1 : Int).toNat), bt205.2.1, bt205.2.2)) else (none)) else (some (bt197.1, bt197.2.1, bt197.2.2.1, bt205.2.1, bt205.2.2)))))))) = some (r1, r2, r3, r4, r5) := h
 clear h
 replace H := Option.bind_eq_some_iff.mp H
 obtain ⟨⟨t197, t198, t199, t202, t203⟩, A20, H⟩ := H
 replace H : ((spec_l01Below.f s0_0 t202 t203 12).bind fun bt205 => (if bt205.1 = 0 then ((spec_l01PickInt.f s0_0 bt205.2.1 bt205.2.2 (([(-1), 0, 3] : List Int))).bind fun bt211 => (some (bt211.1, t198, t199, bt211.2.1, bt211.2.2))) else (if bt205.1 = 1 then ((spec_l01PickInt.f s0_0 bt205.2.1 bt205.2.2 (([(-1), 0, 200, 201] : List Int))).bind fun bt217 => (some (t197, bt217.1, t199, bt217.2.1, bt217.2.2))) else (if bt205.1 = 2 then ((spec_l01PickInt.f s0_0 bt205.2.1 bt205.2.2 (([(-1), 16, 17] : List Int))).bind fun bt223 => (if 0 < (t199.length : Int) then (some (t197, t198, (t199.set (0 : Int).toNat bt223.1), bt223.2.1, bt223.2.2)) else (none))) else (if bt205.1 = 3 then (if 1 ≤ (t199.length : Int) then (some (t197, t198, (t199.drop (1 : Int).toNat), bt205.2.1, bt205.2.2)) else (none)) else (some (t197, t198, t199, bt205.2.1, bt205.2.2))))))) = some (r1, r2, r3, r4, r5) := H
 have A2 := Aside0.mk A20
 clear A20
 replace H := Option.bind_eq_some_iff.mp H
 obtain ⟨⟨t205, t206, t207⟩, A30, H⟩ := H
 replace H : (if t205 = 0 then ((spec_l01PickInt.f s0_0 t206 t207 (([(-1), 0, 3] : List Int))).bind fun bt211 => (some (bt211.1, t198, t199, bt211.2.1, bt211.2.2))) else (if t205 = 1 then ((spec_l01PickInt.f s0_0 t206 t207 (([(-1), 0, 200, 201] : List Int))).bind fun bt217 => (some (t197, bt217.1, t199, bt217.2.1, bt217.2.2))) else (if t205 = 2 then ((spec_l01PickInt.f s0_0 t206 t207 (([(-1), 16, 17] : List Int))).bind fun bt223 => (if 0 < (t199.length : Int) then (some (t197, t198, (t199.set (0 : Int).toNat bt223.1), bt223.2.1, bt223.2.2)) else (none))) else (if t205 = 3 then (if 1 ≤ (t199.length : Int) then (some (t197, t198, (t199.drop (1 : Int).toNat), t206, t207)) else (none)) else (some (t197, t198, t199, t206, t207)))))) = some (r1, r2, r3, r4, r5) := H
 have A3 := Aside0.mk A30
 clear A30
 by_cases c4 : t205 = 0
 ·rw [if_pos c4] at H
  have c4b0 : (t205 == 0) = true := beq_iff_eq.mpr c4
  have c4b1 : (t205 != 0) = false := bne_eq_false_iff_eq.mpr c4
  clear c4
  obtain ⟨y208, hy208⟩ : ∃ y_ : List Int, y_ = (([(-1), 0, 3] : List Int)) := ⟨_, rfl⟩
  replace H : ((spec_l01PickInt.f s0_0 t206 t207 y208).bind fun bt211 => (some (bt211.1, t198, t199, bt211.2.1, bt211.2.2))) = some (r1, r2, r3, r4, r5) := by first | (rw [hy208]; with_reducible exact H) | (have H2_ := (Option.bind_some _ _).symm.trans H; rw [hy208]; with_reducible exact H2_) | (have H2_ := (Option.bind_some _ _).symm.trans H; with_reducible exact H2_) | with_reducible exact H | (rw [hy208]; exact H) | exact H
  have Ny208 := Aside0.mk hy208
  clear hy208
  replace H := Option.bind_eq_some_iff.mp H
  obtain ⟨⟨t211, t212, t213⟩, A50, H⟩ := H
  replace H : (some (t211, t198, t199, t212, t213)) = some (r1, r2, r3, r4, r5) := H
  have A5 := Aside0.mk A50
  clear A50
  simp only [Option.some.injEq, Prod.mk.injEq] at H
  obtain ⟨rfl, rfl, rfl, rfl, rfl⟩ := H
  go_enter Try.func103, Try.ntmps103
  go_wp2_with (first | ((with_reducible refine gate_dst (N := 2) rfl ?_); refine box_event ?hg (N := 2) ?hd (cs := #[.int .i64 0, .int .i64 0, .slice none 0 0]) (t := 34) ?hr ?_; (case hd => rfl); (case hg => rfl); (case hr => first | (go_simp; done) | (go_simp; rfl)); intro gb196 hg w6 hbox hb; have n0_ := Aside0.mk (IsS126.below (by repeat (first | (with_reducible first | exact HI0.out | apply IsS126.alloc | apply IsS126.drewN | apply IsS126.drew | apply IsS126.set_1 | apply IsS126.set_2) | exact HI0.out)) hb); have n1_ := Aside0.mk (KeepBut.trans (qh HK.out) (KeepBut.of_below hb g none) (.inl rfl)); have n2_ := Aside0.mk (below_step (qb1 HB.out (IsS126.ge HI0.out)) hb); have n3_ := Aside0.mk (hbox); have n4_ := Aside0.mk ((by rw [hg]; exact (keep_size (w := w) (g := g) (row := none) (qh HK.out)) : w.heap.size ≤ gb196)); have n5_ := Aside0.mk ((Nat.le_trans HW0.out (by rw [hg]; exact (keep_size (w := w) (g := g) (row := none) (qh HK.out)) : w.heap.size ≤ gb196) : w0.heap.size ≤ gb196)); have n6_ := Aside0.mk ((by rw [hg]; exact Nat.ne_of_lt (IsS126.lt (show IsS126 w0 _ g s0_0 s0_1 s0_2 from by repeat (first | (with_reducible first | exact HI0.out | apply IsS126.alloc | apply IsS126.drewN | apply IsS126.drew | apply IsS126.set_1 | apply IsS126.set_2) | exact HI0.out))) : g ≠ gb196)); have n7_ := Aside0.mk ((by rw [hg]; exact Nat.ne_of_gt (IsS126.lt (show IsS126 w0 _ g s0_0 s0_1 s0_2 from by repeat (first | (with_reducible first | exact HI0.out | apply IsS126.alloc | apply IsS126.drewN | apply IsS126.drew | apply IsS126.set_1 | apply IsS126.set_2) | exact HI0.out))) : gb196 ≠ g)); clear HI0; clear HK; clear HB; have HI0 := n0_; have HK := n1_; have HB := n2_; have BK196 := n3_; have GW196 := n4_; have GE196 := n5_; have NB0_196 := n6_; have NB196_0 := n7_; clear n0_ n1_ n2_ n3_ n4_ n5_ n6_ n7_; clear hb hbox hg) | ((with_reducible refine gate_callee (f := 116) rfl ?_); refine goesL_ (some 5) rfl rfl Try.func116 (by kernel_rfl) rfl #[.pointer (some ⟨g, 0, none⟩)] rfl qm ?_; (with_reducible refine (spec_l03Inode.calls g s0_0 s0_1 s0_2 t197 t198 t199 t202 t203 w0 _ ?side1 ?side2 A2.out).mono ?_); (case side1 => repeat (first | (with_reducible first | exact HI0.out | apply IsS126.alloc | apply IsS126.drewN | apply IsS126.drew | apply IsS126.set_1 | apply IsS126.set_2 | refine IsS126.far ?_ NB0_196.out _) | exact HI0.out)); (case side2 => repeat (first | (with_reducible first | exact HB.out | apply below_alloc | apply pw_below_drewN | apply below_drew1 | refine below_set ?_ (IsS126.ge HI0.out) | refine below_set ?_ GE196.out) | exact HB.out)); rintro e w7 ⟨v200, rfl, ho0, hi, hb, hk⟩; refine ⟨_, rfl, ?_⟩; have n0_ := Aside0.mk (KeepBut.blk hk (g' := gb196) (o := .cells #[.int .i64 0, .int .i64 0, .slice none 0 0] 34 (0, 0)) (qk BK196.out) NB196_0.out (by simp)); have n1_ := Aside0.mk (Kd.R_lower ho0 (keep_size (w := w) (g := g) (row := none) (qh1 HK.out GW196.out))); have n2_ := Aside0.mk (KeepBut.trans (qh1 HK.out GW196.out) hk (.inl rfl)); have n3_ := Aside0.mk (hb); have n4_ := Aside0.mk (hi); clear BK196; clear HK; clear HB; clear HI0; have BK196 := n0_; have HO201 := n1_; have HK := n2_; have HB := n3_; have HI0 := n4_; clear n0_ n1_ n2_ n3_ n4_; (try clear hb); (try clear hb2); (try clear hk); (try clear hi); (try clear ho0)) | ((with_reducible refine gate_dst (N := 3) rfl ?_); refine box_event ?hg (N := 3) ?hd (cs := #[.int .i64 0, .int .i64 0, .slice none 0 0]) (t := 34) ?hr ?_; (case hd => rfl); (case hg => rfl); (case hr => first | (go_simp; done) | (go_simp; rfl)); intro gb204 hg w8 hbox hb; have n0_ := Aside0.mk (Kd.R_below (qr HO201.out) hb); have n1_ := Aside0.mk (IsS126.below (by repeat (first | (with_reducible first | exact HI0.out | apply IsS126.alloc | apply IsS126.drewN | apply IsS126.drew | apply IsS126.set_1 | apply IsS126.set_2 | refine IsS126.far ?_ NB0_196.out _) | exact HI0.out)) hb); have n2_ := Aside0.mk (blk_below (g := gb196) (o := .cells #[.int .i64 0, .int .i64 0, .slice none 0 0] 34 (0, 0)) (qk BK196.out) hb); have n3_ := Aside0.mk (KeepBut.trans (qh1 HK.out GW196.out) (KeepBut.of_below hb g none) (.inl rfl)); have n4_ := Aside0.mk (below_step (qb2 HB.out (IsS126.ge HI0.out) GE196.out) hb); have n5_ := Aside0.mk (hbox); have n6_ := Aside0.mk ((by rw [hg]; exact (keep_size (w := w) (g := g) (row := none) (qh1 HK.out GW196.out)) : w.heap.size ≤ gb204)); have n7_ := Aside0.mk ((Nat.le_trans HW0.out (by rw [hg]; exact (keep_size (w := w) (g := g) (row := none) (qh1 HK.out GW196.out)) : w.heap.size ≤ gb204) : w0.heap.size ≤ gb204)); have n8_ := Aside0.mk ((by rw [hg]; exact Nat.ne_of_lt (blk_lt (g := gb196) (o := .cells #[.int .i64 0, .int .i64 0, .slice none 0 0] 34 (0, 0)) (qk BK196.out)) : gb196 ≠ gb204)); have n9_ := Aside0.mk ((by rw [hg]; exact Nat.ne_of_gt (blk_lt (g := gb196) (o := .cells #[.int .i64 0, .int .i64 0, .slice none 0 0] 34 (0, 0)) (qk BK196.out)) : gb204 ≠ gb196)); have n10_ := Aside0.mk ((by rw [hg]; exact Nat.ne_of_lt (IsS126.lt (show IsS126 w0 _ g s0_0 t202 t203 from by repeat (first | (with_reducible first | exact HI0.out | apply IsS126.alloc | apply IsS126.drewN | apply IsS126.drew | apply IsS126.set_1 | apply IsS126.set_2 | refine IsS126.far ?_ NB0_196.out _) | exact HI0.out))) : g ≠ gb204)); have n11_ := Aside0.mk ((by rw [hg]; exact Nat.ne_of_gt (IsS126.lt (show IsS126 w0 _ g s0_0 t202 t203 from by repeat (first | (with_reducible first | exact HI0.out | apply IsS126.alloc | apply IsS126.drewN | apply IsS126.drew | apply IsS126.set_1 | apply IsS126.set_2 | refine IsS126.far ?_ NB0_196.out _) | exact HI0.out))) : gb204 ≠ g)); clear HO201; clear HI0; clear BK196; clear HK; clear HB; have HO201 := n0_; have HI0 := n1_; have BK196 := n2_; have HK := n3_; have HB := n4_; have BK204 := n5_; have GW204 := n6_; have GE204 := n7_; have NB196_204 := n8_; have NB204_196 := n9_; have NB0_204 := n10_; have NB204_0 := n11_; clear n0_ n1_ n2_ n3_ n4_ n5_ n6_ n7_ n8_ n9_ n10_ n11_; clear hb hbox hg; have hnb9 := NB204_196.out; have hnc9 := NB196_204.out; have hnb10 := NB204_0.out; have hnc10 := NB0_204.out; have hcz11_0 : w8.cell? ⟨gb204, 0, none⟩ = some (.int .i64 0) := (blk_cell BK204.out 0).trans rfl; have hcz11_1 : w8.cell? ⟨gb204, 1, none⟩ = some (.int .i64 0) := (blk_cell BK204.out 1).trans rfl; have hcz11_2 : w8.cell? ⟨gb204, 2, none⟩ = some (.slice none 0 0) := (blk_cell BK204.out 2).trans rfl; have hfz11_0 := blk_frozen BK204.out 0; have hfz11_1 := blk_frozen BK204.out 1; have hfz11_2 := blk_frozen BK204.out 2; obtain ⟨Ao12, co12, eo12⟩ := Kd.R_slice HO201.out; subst eo12) | ((with_reducible refine gate_callee (f := 73) rfl ?_); refine goesL_ (some 7) rfl rfl Try.func73 (by kernel_rfl) rfl #[.pointer (some ⟨g, 0, none⟩), .int .i64 12] rfl qm ?_; (with_reducible refine (spec_l01Below.calls g s0_0 t202 t203 12 t205 t206 t207 w0 _ ?side1 ?side2 A3.out).mono ?_); (case side1 => repeat (first | (with_reducible first | exact HI0.out | apply IsS126.alloc | apply IsS126.drewN | apply IsS126.drew | apply IsS126.set_1 | apply IsS126.set_2 | refine IsS126.far ?_ NB0_196.out _ | refine IsS126.far ?_ NB0_204.out _) | exact HI0.out)); (case side2 => repeat (first | (with_reducible first | exact HB.out | apply below_alloc | apply pw_below_drewN | apply below_drew1 | refine below_set ?_ (IsS126.ge HI0.out) | refine below_set ?_ GE196.out | refine below_set ?_ GE204.out) | exact HB.out)); rintro e w13 ⟨rfl, hi, hb, hk⟩; refine ⟨_, rfl, ?_⟩; have n0_ := Aside0.mk (KeepBut.blk hk (g' := gb196) (o := .cells #[.int .i64 0, .int .i64 0, .slice none 0 0] 34 (0, 0)) (by refine qK ?_; refine blk_far ?_ NB196_204.out _; refine qK ?_; refine blk_far ?_ NB196_204.out _; refine qK ?_; refine blk_far ?_ NB196_204.out _; refine qK ?_; exact BK196.out) NB196_0.out (by simp)); have n1_ := Aside0.mk (Kd.R_mono (Kd.R_keep (IsS126.apart (show IsS126 w0 _ g s0_0 t202 t203 from by repeat (first | (with_reducible first | exact HI0.out | apply IsS126.alloc | apply IsS126.drewN | apply IsS126.drew | apply IsS126.set_1 | apply IsS126.set_2 | refine IsS126.far ?_ NB0_196.out _ | refine IsS126.far ?_ NB0_204.out _) | exact HI0.out)) (by refine qR ?_; exact (Kd.R_mono (Kd.R_far (p := ⟨gb204, 2, none⟩) (Kd.R_far (p := ⟨gb204, 1, none⟩) (Kd.R_far (p := ⟨gb204, 0, none⟩) (Kd.R_types HO201.out BK204.out (by decide)) (fun _ hk => hk.2) (.int .i64 t197)) (fun _ hk => hk.2) (.int .i64 t198)) (fun _ hk => hk.2) (.slice Ao12 t199.length co12)) (fun _ h_ => h_.1))) (by decide)) hk (fun _ h => h.2)) (fun _ h => h.1)); have n2_ := Aside0.mk (KeepBut.blk hk (g' := gb204) (o := .cells #[.int .i64 t197, .int .i64 t198, .slice Ao12 t199.length co12] 34 (0, 0)) (by refine qK ?_; refine blk_put (cs := #[.int .i64 t197, .int .i64 t198, .slice none 0 0]) ?_ 2 _ rfl; refine qK ?_; refine blk_put (cs := #[.int .i64 t197, .int .i64 0, .slice none 0 0]) ?_ 1 _ rfl; refine qK ?_; refine blk_put (cs := #[.int .i64 0, .int .i64 0, .slice none 0 0]) ?_ 0 _ rfl; refine qK ?_; exact BK204.out) NB204_0.out (by simp)); have n3_ := Aside0.mk (KeepBut.trans (qh2 HK.out GW196.out GW204.out) hk (.inl rfl)); have n4_ := Aside0.mk (hb); have n5_ := Aside0.mk (hi); clear BK196; clear HO201; clear BK204; clear HK; clear HB; clear HI0; have BK196 := n0_; have HO201 := n1_; have BK204 := n2_; have HK := n3_; have HB := n4_; have HI0 := n5_; clear n0_ n1_ n2_ n3_ n4_ n5_; (try clear hb); (try clear hb2); (try clear hk); (try clear hi)) | ((with_reducible refine gate_dst (N := 11) rfl ?_); refine Kd.R_lit (Kd.int .i64) _ 3 ?hg (N := 11) ?hd (xs := ([(-1), 0, 3] : List Int)) (inner := [.int .i64 (-1), .int .i64 0, .int .i64 3]) (ok := fun _ => True) (okp := fun _ => True) ?hr ?hp (fun _ hk => hk) trivial (Below.refl _ _) (Nat.le_refl _) (by simp) ?_; (case hd => rfl); (case hg => rfl); (case hr => first | (go_simp; done) | (go_simp; rfl)); (case hp => exact (Reps.one (show Kd.M (Kd.int .i64) _ _ _ (-1) [.int .i64 (-1)] from rfl) (Reps.one (show Kd.M (Kd.int .i64) _ _ _ 0 [.int .i64 0] from rfl) (Reps.one (show Kd.M (Kd.int .i64) _ _ _ 3 [.int .i64 3] from rfl) (Reps.none _ _))))); intro v209 w14 ho15 hb hg_ hnew_; clear hg_ hnew_; (first | rw [← Ny208.out] at ho15 | (simp only [Int.reduceToNat] at ho15; rw [← Ny208.out] at ho15)); have n0_ := Aside0.mk (Kd.R_elder' (qr HO201.out) (Kd.R_base ho15) hb); have n1_ := Aside0.mk (Kd.R_lower (Kd.R_new' ho15 (Kd.R_lt (qr HO201.out))) (keep_size (w := w) (g := g) (row := none) (qh2 HK.out GW196.out GW204.out))); have n2_ := Aside0.mk (IsS126.below (by repeat (first | (with_reducible first | exact HI0.out | apply IsS126.alloc | apply IsS126.drewN | apply IsS126.drew | apply IsS126.set_1 | apply IsS126.set_2 | refine IsS126.far ?_ NB0_196.out _ | refine IsS126.far ?_ NB0_204.out _) | exact HI0.out)) hb); have n3_ := Aside0.mk (blk_below (g := gb196) (o := .cells #[.int .i64 0, .int .i64 0, .slice none 0 0] 34 (0, 0)) (qk BK196.out) hb); have n4_ := Aside0.mk (blk_below (g := gb204) (o := .cells #[.int .i64 t197, .int .i64 t198, .slice Ao12 t199.length co12] 34 (0, 0)) (qk BK204.out) hb); have n5_ := Aside0.mk (KeepBut.trans (qh2 HK.out GW196.out GW204.out) (KeepBut.of_below hb g none) (.inl rfl)); have n6_ := Aside0.mk (below_step (qb3 HB.out (IsS126.ge HI0.out) GE196.out GE204.out) hb); clear HO201; clear HI0; clear BK196; clear BK204; clear HK; clear HB; have HO201 := n0_; have HO210 := n1_; have HI0 := n2_; have BK196 := n3_; have BK204 := n4_; have HK := n5_; have HB := n6_; clear n0_ n1_ n2_ n3_ n4_ n5_ n6_; clear hb ho15; obtain ⟨Ao16, co16, eo16⟩ := Kd.R_slice HO210.out; subst eo16) | ((with_reducible refine gate_callee (f := 92) rfl ?_); refine goesL_ (some 12) rfl rfl Try.func92 (by kernel_rfl) rfl #[.pointer (some ⟨g, 0, none⟩), .slice Ao16 y208.length co16] rfl qm ?_; (with_reducible refine (spec_l01PickInt.calls g s0_0 t206 t207 _ _ y208 t211 t212 t213 w0 _ ?side1 ?side2 ?side3 ?side4 ?side5 A5.out).mono ?_); (case side1 => repeat (first | (with_reducible first | exact HI0.out | apply IsS126.alloc | apply IsS126.drewN | apply IsS126.drew | apply IsS126.set_1 | apply IsS126.set_2 | refine IsS126.far ?_ NB0_196.out _ | refine IsS126.far ?_ NB0_204.out _) | exact HI0.out)); (case side2 => repeat (first | (with_reducible first | exact HB.out | apply below_alloc | apply pw_below_drewN | apply below_drew1 | refine below_set ?_ (IsS126.ge HI0.out) | refine below_set ?_ GE196.out | refine below_set ?_ GE204.out) | exact HB.out)); (case side3 => repeat (first | exact (Kd.R_reads' HO210.out).2.2 | (with_reducible refine Kd.C_alloc ?_ _) | (with_reducible refine Kd.C_drewN ?_ _) | (with_reducible refine Kd.C_drew ?_))); (case side4 => exact (Kd.R_reads' HO210.out).2.1); (case side5 => exact far_slice (IsS126.own_ne HI0.out HO210.out (by decide))); rintro e w17 ⟨rfl, hi, hb, hk⟩; refine ⟨_, rfl, ?_⟩; have n0_ := Aside0.mk (KeepBut.blk hk (g' := gb196) (o := .cells #[.int .i64 0, .int .i64 0, .slice none 0 0] 34 (0, 0)) (qk BK196.out) NB196_0.out (by simp)); have n1_ := Aside0.mk (Kd.R_mono (Kd.R_keep (IsS126.apart (show IsS126 w0 _ g s0_0 t206 t207 from by repeat (first | (with_reducible first | exact HI0.out | apply IsS126.alloc | apply IsS126.drewN | apply IsS126.drew | apply IsS126.set_1 | apply IsS126.set_2 | refine IsS126.far ?_ NB0_196.out _ | refine IsS126.far ?_ NB0_204.out _) | exact HI0.out)) (qr HO201.out) (by decide)) hk (fun _ h => h.2)) (fun _ h => h.1)); have n2_ := Aside0.mk (KeepBut.blk hk (g' := gb204) (o := .cells #[.int .i64 t197, .int .i64 t198, .slice Ao12 t199.length co12] 34 (0, 0)) (qk BK204.out) NB204_0.out (by simp)); have n3_ := Aside0.mk (Kd.R_mono (Kd.R_keep (IsS126.apart (show IsS126 w0 _ g s0_0 t206 t207 from by repeat (first | (with_reducible first | exact HI0.out | apply IsS126.alloc | apply IsS126.drewN | apply IsS126.drew | apply IsS126.set_1 | apply IsS126.set_2 | refine IsS126.far ?_ NB0_196.out _ | refine IsS126.far ?_ NB0_204.out _) | exact HI0.out)) (qr HO210.out) (by decide)) hk (fun _ h => h.2)) (fun _ h => h.1)); have n4_ := Aside0.mk (KeepBut.trans (qh2 HK.out GW196.out GW204.out) hk (.inl rfl)); have n5_ := Aside0.mk (hb); have n6_ := Aside0.mk (hi); clear BK196; clear HO201; clear BK204; clear HO210; clear HK; clear HB; clear HI0; have BK196 := n0_; have HO201 := n1_; have BK204 := n2_; have HO210 := n3_; have HK := n4_; have HB := n5_; have HI0 := n6_; clear n0_ n1_ n2_ n3_ n4_ n5_ n6_; (try clear hb); (try clear hb2); (try clear hk); (try clear hi); have hcz18_0 : w17.cell? ⟨gb204, 0, none⟩ = some (.int .i64 t197) := (blk_cell BK204.out 0).trans rfl; have hcz18_1 : w17.cell? ⟨gb204, 1, none⟩ = some (.int .i64 t198) := (blk_cell BK204.out 1).trans rfl; have hcz18_2 : w17.cell? ⟨gb204, 2, none⟩ = some (.slice Ao12 t199.length co12) := (blk_cell BK204.out 2).trans rfl; have hfz18_0 := blk_frozen BK204.out 0; have hfz18_1 := blk_frozen BK204.out 1; have hfz18_2 := blk_frozen BK204.out 2; have hnb19 := NB196_0.out; have hnc19 := NB0_196.out; have hcz20_0 : w17.cell? ⟨gb196, 0, none⟩ = some (.int .i64 0) := (blk_cell BK196.out 0).trans rfl; have hcz20_1 : w17.cell? ⟨gb196, 1, none⟩ = some (.int .i64 0) := (blk_cell BK196.out 1).trans rfl; have hcz20_2 : w17.cell? ⟨gb196, 2, none⟩ = some (.slice none 0 0) := (blk_cell BK196.out 2).trans rfl; have hfz20_0 := blk_frozen BK196.out 0; have hfz20_1 := blk_frozen BK196.out 1; have hfz20_2 := blk_frozen BK196.out 2))
  refine bodyPost_ret (results_cell_row rfl _ _ gb196 34 #[.int .i64 t211, .int .i64 t198, .slice Ao12 t199.length co12] (0, 0) _ rfl (by refine qK ?_; refine blk_put (cs := #[.int .i64 t211, .int .i64 t198, .slice none 0 0]) ?_ 2 _ rfl; refine qK ?_; refine blk_put (cs := #[.int .i64 t211, .int .i64 0, .slice none 0 0]) ?_ 1 _ rfl; refine qK ?_; refine blk_put (cs := #[.int .i64 0, .int .i64 0, .slice none 0 0]) ?_ 0 _ rfl; refine qK ?_; refine blk_far ?_ NB196_204.out _; refine qK ?_; exact BK196.out) Try.underlying34 rfl (by kernel_rfl)) rfl ?_
  exact ⟨_, qe, Kd.Q_of_R (by refine qR ?_; exact Kd.R_mono (Kd.R_far (p := ⟨gb196, 2, none⟩) (Kd.R_far (p := ⟨gb196, 1, none⟩) (Kd.R_far (p := ⟨gb196, 0, none⟩) (Kd.R_far (p := ⟨gb204, 0, none⟩) (Kd.R_types (Kd.R_types HO201.out BK204.out (by decide)) BK196.out (by decide)) (fun _ hk => hk.1.2) (.int .i64 t211)) (fun _ hk => hk.2) (.int .i64 t211)) (fun _ hk => hk.2) (.int .i64 t198)) (fun _ hk => hk.2) (.slice Ao12 t199.length co12)) (fun _ hk => trivial)), by repeat (first | (with_reducible first | exact HI0.out | apply IsS126.alloc | apply IsS126.drewN | apply IsS126.drew | apply IsS126.set_1 | apply IsS126.set_2 | refine IsS126.far ?_ NB0_196.out _ | refine IsS126.far ?_ NB0_204.out _) | exact HI0.out), qb3 HB.out (IsS126.ge HI0.out) GE196.out GE204.out, qh2 HK.out GW196.out GW204.out⟩
 ·rw [if_neg c4] at H
  have c4b0 : (t205 == 0) = false := beq_eq_false_iff_ne.mpr c4
  have c4b1 : (t205 != 0) = true := bne_iff_ne.mpr c4
  by_cases c21 : t205 = 1
  ·rw [if_pos c21] at H
   have c21b0 : (t205 == 1) = true := beq_iff_eq.mpr c21
   have c21b1 : (t205 != 1) = false := bne_eq_false_iff_eq.mpr c21
   clear c21
   obtain ⟨y214, hy214⟩ : ∃ y_ : List Int, y_ = (([(-1), 0, 200, 201] : List Int)) := ⟨_, rfl⟩
   replace H : ((spec_l01PickInt.f s0_0 t206 t207 y214).bind fun bt217 => (some (t197, bt217.1, t199, bt217.2.1, bt217.2.2))) = some (r1, r2, r3, r4, r5) := by first | (rw [hy214]; with_reducible exact H) | (have H2_ := (Option.bind_some _ _).symm.trans H; rw [hy214]; with_reducible exact H2_) | (have H2_ := (Option.bind_some _ _).symm.trans H; with_reducible exact H2_) | with_reducible exact H | (rw [hy214]; exact H) | exact H
   have Ny214 := Aside0.mk hy214
   clear hy214
   replace H := Option.bind_eq_some_iff.mp H
   obtain ⟨⟨t217, t218, t219⟩, A220, H⟩ := H
   replace H : (some (t197, t217, t199, t218, t219)) = some (r1, r2, r3, r4, r5) := H
   have A22 := Aside0.mk A220
   clear A220
   simp only [Option.some.injEq, Prod.mk.injEq] at H
   obtain ⟨rfl, rfl, rfl, rfl, rfl⟩ := H
   go_enter Try.func103, Try.ntmps103
   go_wp2_with (first | ((with_reducible refine gate_dst (N := 2) rfl ?_); refine box_event ?hg (N := 2) ?hd (cs := #[.int .i64 0, .int .i64 0, .slice none 0 0]) (t := 34) ?hr ?_; (case hd => rfl); (case hg => rfl); (case hr => first | (go_simp; done) | (go_simp; rfl)); intro gb196 hg w23 hbox hb; have n0_ := Aside0.mk (IsS126.below (by repeat (first | (with_reducible first | exact HI0.out | apply IsS126.alloc | apply IsS126.drewN | apply IsS126.drew | apply IsS126.set_1 | apply IsS126.set_2) | exact HI0.out)) hb); have n1_ := Aside0.mk (KeepBut.trans (qh HK.out) (KeepBut.of_below hb g none) (.inl rfl)); have n2_ := Aside0.mk (below_step (qb1 HB.out (IsS126.ge HI0.out)) hb); have n3_ := Aside0.mk (hbox); have n4_ := Aside0.mk ((by rw [hg]; exact (keep_size (w := w) (g := g) (row := none) (qh HK.out)) : w.heap.size ≤ gb196)); have n5_ := Aside0.mk ((Nat.le_trans HW0.out (by rw [hg]; exact (keep_size (w := w) (g := g) (row := none) (qh HK.out)) : w.heap.size ≤ gb196) : w0.heap.size ≤ gb196)); have n6_ := Aside0.mk ((by rw [hg]; exact Nat.ne_of_lt (IsS126.lt (show IsS126 w0 _ g s0_0 s0_1 s0_2 from by repeat (first | (with_reducible first | exact HI0.out | apply IsS126.alloc | apply IsS126.drewN | apply IsS126.drew | apply IsS126.set_1 | apply IsS126.set_2) | exact HI0.out))) : g ≠ gb196)); have n7_ := Aside0.mk ((by rw [hg]; exact Nat.ne_of_gt (IsS126.lt (show IsS126 w0 _ g s0_0 s0_1 s0_2 from by repeat (first | (with_reducible first | exact HI0.out | apply IsS126.alloc | apply IsS126.drewN | apply IsS126.drew | apply IsS126.set_1 | apply IsS126.set_2) | exact HI0.out))) : gb196 ≠ g)); clear HI0; clear HK; clear HB; have HI0 := n0_; have HK := n1_; have HB := n2_; have BK196 := n3_; have GW196 := n4_; have GE196 := n5_; have NB0_196 := n6_; have NB196_0 := n7_; clear n0_ n1_ n2_ n3_ n4_ n5_ n6_ n7_; clear hb hbox hg) | ((with_reducible refine gate_callee (f := 116) rfl ?_); refine goesL_ (some 5) rfl rfl Try.func116 (by kernel_rfl) rfl #[.pointer (some ⟨g, 0, none⟩)] rfl qm ?_; (with_reducible refine (spec_l03Inode.calls g s0_0 s0_1 s0_2 t197 t198 t199 t202 t203 w0 _ ?side1 ?side2 A2.out).mono ?_); (case side1 => repeat (first | (with_reducible first | exact HI0.out | apply IsS126.alloc | apply IsS126.drewN | apply IsS126.drew | apply IsS126.set_1 | apply IsS126.set_2 | refine IsS126.far ?_ NB0_196.out _) | exact HI0.out)); (case side2 => repeat (first | (with_reducible first | exact HB.out | apply below_alloc | apply pw_below_drewN | apply below_drew1 | refine below_set ?_ (IsS126.ge HI0.out) | refine below_set ?_ GE196.out) | exact HB.out)); rintro e w24 ⟨v200, rfl, ho0, hi, hb, hk⟩; refine ⟨_, rfl, ?_⟩; have n0_ := Aside0.mk (KeepBut.blk hk (g' := gb196) (o := .cells #[.int .i64 0, .int .i64 0, .slice none 0 0] 34 (0, 0)) (qk BK196.out) NB196_0.out (by simp)); have n1_ := Aside0.mk (Kd.R_lower ho0 (keep_size (w := w) (g := g) (row := none) (qh1 HK.out GW196.out))); have n2_ := Aside0.mk (KeepBut.trans (qh1 HK.out GW196.out) hk (.inl rfl)); have n3_ := Aside0.mk (hb); have n4_ := Aside0.mk (hi); clear BK196; clear HK; clear HB; clear HI0; have BK196 := n0_; have HO201 := n1_; have HK := n2_; have HB := n3_; have HI0 := n4_; clear n0_ n1_ n2_ n3_ n4_; (try clear hb); (try clear hb2); (try clear hk); (try clear hi); (try clear ho0)) | ((with_reducible refine gate_dst (N := 3) rfl ?_); refine box_event ?hg (N := 3) ?hd (cs := #[.int .i64 0, .int .i64 0, .slice none 0 0]) (t := 34) ?hr ?_; (case hd => rfl); (case hg => rfl); (case hr => first | (go_simp; done) | (go_simp; rfl)); intro gb204 hg w25 hbox hb; have n0_ := Aside0.mk (Kd.R_below (qr HO201.out) hb); have n1_ := Aside0.mk (IsS126.below (by repeat (first | (with_reducible first | exact HI0.out | apply IsS126.alloc | apply IsS126.drewN | apply IsS126.drew | apply IsS126.set_1 | apply IsS126.set_2 | refine IsS126.far ?_ NB0_196.out _) | exact HI0.out)) hb); have n2_ := Aside0.mk (blk_below (g := gb196) (o := .cells #[.int .i64 0, .int .i64 0, .slice none 0 0] 34 (0, 0)) (qk BK196.out) hb); have n3_ := Aside0.mk (KeepBut.trans (qh1 HK.out GW196.out) (KeepBut.of_below hb g none) (.inl rfl)); have n4_ := Aside0.mk (below_step (qb2 HB.out (IsS126.ge HI0.out) GE196.out) hb); have n5_ := Aside0.mk (hbox); have n6_ := Aside0.mk ((by rw [hg]; exact (keep_size (w := w) (g := g) (row := none) (qh1 HK.out GW196.out)) : w.heap.size ≤ gb204)); have n7_ := Aside0.mk ((Nat.le_trans HW0.out (by rw [hg]; exact (keep_size (w := w) (g := g) (row := none) (qh1 HK.out GW196.out)) : w.heap.size ≤ gb204) : w0.heap.size ≤ gb204)); have n8_ := Aside0.mk ((by rw [hg]; exact Nat.ne_of_lt (blk_lt (g := gb196) (o := .cells #[.int .i64 0, .int .i64 0, .slice none 0 0] 34 (0, 0)) (qk BK196.out)) : gb196 ≠ gb204)); have n9_ := Aside0.mk ((by rw [hg]; exact Nat.ne_of_gt (blk_lt (g := gb196) (o := .cells #[.int .i64 0, .int .i64 0, .slice none 0 0] 34 (0, 0)) (qk BK196.out)) : gb204 ≠ gb196)); have n10_ := Aside0.mk ((by rw [hg]; exact Nat.ne_of_lt (IsS126.lt (show IsS126 w0 _ g s0_0 t202 t203 from by repeat (first | (with_reducible first | exact HI0.out | apply IsS126.alloc | apply IsS126.drewN | apply IsS126.drew | apply IsS126.set_1 | apply IsS126.set_2 | refine IsS126.far ?_ NB0_196.out _) | exact HI0.out))) : g ≠ gb204)); have n11_ := Aside0.mk ((by rw [hg]; exact Nat.ne_of_gt (IsS126.lt (show IsS126 w0 _ g s0_0 t202 t203 from by repeat (first | (with_reducible first | exact HI0.out | apply IsS126.alloc | apply IsS126.drewN | apply IsS126.drew | apply IsS126.set_1 | apply IsS126.set_2 | refine IsS126.far ?_ NB0_196.out _) | exact HI0.out))) : gb204 ≠ g)); clear HO201; clear HI0; clear BK196; clear HK; clear HB; have HO201 := n0_; have HI0 := n1_; have BK196 := n2_; have HK := n3_; have HB := n4_; have BK204 := n5_; have GW204 := n6_; have GE204 := n7_; have NB196_204 := n8_; have NB204_196 := n9_; have NB0_204 := n10_; have NB204_0 := n11_; clear n0_ n1_ n2_ n3_ n4_ n5_ n6_ n7_ n8_ n9_ n10_ n11_; clear hb hbox hg; have hnb26 := NB204_196.out; have hnc26 := NB196_204.out; have hnb27 := NB204_0.out; have hnc27 := NB0_204.out; have hcz28_0 : w25.cell? ⟨gb204, 0, none⟩ = some (.int .i64 0) := (blk_cell BK204.out 0).trans rfl; have hcz28_1 : w25.cell? ⟨gb204, 1, none⟩ = some (.int .i64 0) := (blk_cell BK204.out 1).trans rfl; have hcz28_2 : w25.cell? ⟨gb204, 2, none⟩ = some (.slice none 0 0) := (blk_cell BK204.out 2).trans rfl; have hfz28_0 := blk_frozen BK204.out 0; have hfz28_1 := blk_frozen BK204.out 1; have hfz28_2 := blk_frozen BK204.out 2; obtain ⟨Ao29, co29, eo29⟩ := Kd.R_slice HO201.out; subst eo29) | ((with_reducible refine gate_callee (f := 73) rfl ?_); refine goesL_ (some 7) rfl rfl Try.func73 (by kernel_rfl) rfl #[.pointer (some ⟨g, 0, none⟩), .int .i64 12] rfl qm ?_; (with_reducible refine (spec_l01Below.calls g s0_0 t202 t203 12 t205 t206 t207 w0 _ ?side1 ?side2 A3.out).mono ?_); (case side1 => repeat (first | (with_reducible first | exact HI0.out | apply IsS126.alloc | apply IsS126.drewN | apply IsS126.drew | apply IsS126.set_1 | apply IsS126.set_2 | refine IsS126.far ?_ NB0_196.out _ | refine IsS126.far ?_ NB0_204.out _) | exact HI0.out)); (case side2 => repeat (first | (with_reducible first | exact HB.out | apply below_alloc | apply pw_below_drewN | apply below_drew1 | refine below_set ?_ (IsS126.ge HI0.out) | refine below_set ?_ GE196.out | refine below_set ?_ GE204.out) | exact HB.out)); rintro e w30 ⟨rfl, hi, hb, hk⟩; refine ⟨_, rfl, ?_⟩; have n0_ := Aside0.mk (KeepBut.blk hk (g' := gb196) (o := .cells #[.int .i64 0, .int .i64 0, .slice none 0 0] 34 (0, 0)) (by refine qK ?_; refine blk_far ?_ NB196_204.out _; refine qK ?_; refine blk_far ?_ NB196_204.out _; refine qK ?_; refine blk_far ?_ NB196_204.out _; refine qK ?_; exact BK196.out) NB196_0.out (by simp)); have n1_ := Aside0.mk (Kd.R_mono (Kd.R_keep (IsS126.apart (show IsS126 w0 _ g s0_0 t202 t203 from by repeat (first | (with_reducible first | exact HI0.out | apply IsS126.alloc | apply IsS126.drewN | apply IsS126.drew | apply IsS126.set_1 | apply IsS126.set_2 | refine IsS126.far ?_ NB0_196.out _ | refine IsS126.far ?_ NB0_204.out _) | exact HI0.out)) (by refine qR ?_; exact (Kd.R_mono (Kd.R_far (p := ⟨gb204, 2, none⟩) (Kd.R_far (p := ⟨gb204, 1, none⟩) (Kd.R_far (p := ⟨gb204, 0, none⟩) (Kd.R_types HO201.out BK204.out (by decide)) (fun _ hk => hk.2) (.int .i64 t197)) (fun _ hk => hk.2) (.int .i64 t198)) (fun _ hk => hk.2) (.slice Ao29 t199.length co29)) (fun _ h_ => h_.1))) (by decide)) hk (fun _ h => h.2)) (fun _ h => h.1)); have n2_ := Aside0.mk (KeepBut.blk hk (g' := gb204) (o := .cells #[.int .i64 t197, .int .i64 t198, .slice Ao29 t199.length co29] 34 (0, 0)) (by refine qK ?_; refine blk_put (cs := #[.int .i64 t197, .int .i64 t198, .slice none 0 0]) ?_ 2 _ rfl; refine qK ?_; refine blk_put (cs := #[.int .i64 t197, .int .i64 0, .slice none 0 0]) ?_ 1 _ rfl; refine qK ?_; refine blk_put (cs := #[.int .i64 0, .int .i64 0, .slice none 0 0]) ?_ 0 _ rfl; refine qK ?_; exact BK204.out) NB204_0.out (by simp)); have n3_ := Aside0.mk (KeepBut.trans (qh2 HK.out GW196.out GW204.out) hk (.inl rfl)); have n4_ := Aside0.mk (hb); have n5_ := Aside0.mk (hi); clear BK196; clear HO201; clear BK204; clear HK; clear HB; clear HI0; have BK196 := n0_; have HO201 := n1_; have BK204 := n2_; have HK := n3_; have HB := n4_; have HI0 := n5_; clear n0_ n1_ n2_ n3_ n4_ n5_; (try clear hb); (try clear hb2); (try clear hk); (try clear hi)) | ((with_reducible refine gate_dst (N := 17) rfl ?_); refine Kd.R_lit (Kd.int .i64) _ 3 ?hg (N := 17) ?hd (xs := ([(-1), 0, 200, 201] : List Int)) (inner := [.int .i64 (-1), .int .i64 0, .int .i64 200, .int .i64 201]) (ok := fun _ => True) (okp := fun _ => True) ?hr ?hp (fun _ hk => hk) trivial (Below.refl _ _) (Nat.le_refl _) (by simp) ?_; (case hd => rfl); (case hg => rfl); (case hr => first | (go_simp; done) | (go_simp; rfl)); (case hp => exact (Reps.one (show Kd.M (Kd.int .i64) _ _ _ (-1) [.int .i64 (-1)] from rfl) (Reps.one (show Kd.M (Kd.int .i64) _ _ _ 0 [.int .i64 0] from rfl) (Reps.one (show Kd.M (Kd.int .i64) _ _ _ 200 [.int .i64 200] from rfl) (Reps.one (show Kd.M (Kd.int .i64) _ _ _ 201 [.int .i64 201] from rfl) (Reps.none _ _)))))); intro v215 w31 ho32 hb hg_ hnew_; clear hg_ hnew_; (first | rw [← Ny214.out] at ho32 | (simp only [Int.reduceToNat] at ho32; rw [← Ny214.out] at ho32)); have n0_ := Aside0.mk (Kd.R_elder' (qr HO201.out) (Kd.R_base ho32) hb); have n1_ := Aside0.mk (Kd.R_lower (Kd.R_new' ho32 (Kd.R_lt (qr HO201.out))) (keep_size (w := w) (g := g) (row := none) (qh2 HK.out GW196.out GW204.out))); have n2_ := Aside0.mk (IsS126.below (by repeat (first | (with_reducible first | exact HI0.out | apply IsS126.alloc | apply IsS126.drewN | apply IsS126.drew | apply IsS126.set_1 | apply IsS126.set_2 | refine IsS126.far ?_ NB0_196.out _ | refine IsS126.far ?_ NB0_204.out _) | exact HI0.out)) hb); have n3_ := Aside0.mk (blk_below (g := gb196) (o := .cells #[.int .i64 0, .int .i64 0, .slice none 0 0] 34 (0, 0)) (qk BK196.out) hb); have n4_ := Aside0.mk (blk_below (g := gb204) (o := .cells #[.int .i64 t197, .int .i64 t198, .slice Ao29 t199.length co29] 34 (0, 0)) (qk BK204.out) hb); have n5_ := Aside0.mk (KeepBut.trans (qh2 HK.out GW196.out GW204.out) (KeepBut.of_below hb g none) (.inl rfl)); have n6_ := Aside0.mk (below_step (qb3 HB.out (IsS126.ge HI0.out) GE196.out GE204.out) hb); clear HO201; clear HI0; clear BK196; clear BK204; clear HK; clear HB; have HO201 := n0_; have HO216 := n1_; have HI0 := n2_; have BK196 := n3_; have BK204 := n4_; have HK := n5_; have HB := n6_; clear n0_ n1_ n2_ n3_ n4_ n5_ n6_; clear hb ho32; obtain ⟨Ao33, co33, eo33⟩ := Kd.R_slice HO216.out; subst eo33) | ((with_reducible refine gate_callee (f := 92) rfl ?_); refine goesL_ (some 18) rfl rfl Try.func92 (by kernel_rfl) rfl #[.pointer (some ⟨g, 0, none⟩), .slice Ao33 y214.length co33] rfl qm ?_; (with_reducible refine (spec_l01PickInt.calls g s0_0 t206 t207 _ _ y214 t217 t218 t219 w0 _ ?side1 ?side2 ?side3 ?side4 ?side5 A22.out).mono ?_); (case side1 => repeat (first | (with_reducible first | exact HI0.out | apply IsS126.alloc | apply IsS126.drewN | apply IsS126.drew | apply IsS126.set_1 | apply IsS126.set_2 | refine IsS126.far ?_ NB0_196.out _ | refine IsS126.far ?_ NB0_204.out _) | exact HI0.out)); (case side2 => repeat (first | (with_reducible first | exact HB.out | apply below_alloc | apply pw_below_drewN | apply below_drew1 | refine below_set ?_ (IsS126.ge HI0.out) | refine below_set ?_ GE196.out | refine below_set ?_ GE204.out) | exact HB.out)); (case side3 => repeat (first | exact (Kd.R_reads' HO216.out).2.2 | (with_reducible refine Kd.C_alloc ?_ _) | (with_reducible refine Kd.C_drewN ?_ _) | (with_reducible refine Kd.C_drew ?_))); (case side4 => exact (Kd.R_reads' HO216.out).2.1); (case side5 => exact far_slice (IsS126.own_ne HI0.out HO216.out (by decide))); rintro e w34 ⟨rfl, hi, hb, hk⟩; refine ⟨_, rfl, ?_⟩; have n0_ := Aside0.mk (KeepBut.blk hk (g' := gb196) (o := .cells #[.int .i64 0, .int .i64 0, .slice none 0 0] 34 (0, 0)) (qk BK196.out) NB196_0.out (by simp)); have n1_ := Aside0.mk (Kd.R_mono (Kd.R_keep (IsS126.apart (show IsS126 w0 _ g s0_0 t206 t207 from by repeat (first | (with_reducible first | exact HI0.out | apply IsS126.alloc | apply IsS126.drewN | apply IsS126.drew | apply IsS126.set_1 | apply IsS126.set_2 | refine IsS126.far ?_ NB0_196.out _ | refine IsS126.far ?_ NB0_204.out _) | exact HI0.out)) (qr HO201.out) (by decide)) hk (fun _ h => h.2)) (fun _ h => h.1)); have n2_ := Aside0.mk (KeepBut.blk hk (g' := gb204) (o := .cells #[.int .i64 t197, .int .i64 t198, .slice Ao29 t199.length co29] 34 (0, 0)) (qk BK204.out) NB204_0.out (by simp)); have n3_ := Aside0.mk (Kd.R_mono (Kd.R_keep (IsS126.apart (show IsS126 w0 _ g s0_0 t206 t207 from by repeat (first | (with_reducible first | exact HI0.out | apply IsS126.alloc | apply IsS126.drewN | apply IsS126.drew | apply IsS126.set_1 | apply IsS126.set_2 | refine IsS126.far ?_ NB0_196.out _ | refine IsS126.far ?_ NB0_204.out _) | exact HI0.out)) (qr HO216.out) (by decide)) hk (fun _ h => h.2)) (fun _ h => h.1)); have n4_ := Aside0.mk (KeepBut.trans (qh2 HK.out GW196.out GW204.out) hk (.inl rfl)); have n5_ := Aside0.mk (hb); have n6_ := Aside0.mk (hi); clear BK196; clear HO201; clear BK204; clear HO216; clear HK; clear HB; clear HI0; have BK196 := n0_; have HO201 := n1_; have BK204 := n2_; have HO216 := n3_; have HK := n4_; have HB := n5_; have HI0 := n6_; clear n0_ n1_ n2_ n3_ n4_ n5_ n6_; (try clear hb); (try clear hb2); (try clear hk); (try clear hi); have hcz35_0 : w34.cell? ⟨gb204, 0, none⟩ = some (.int .i64 t197) := (blk_cell BK204.out 0).trans rfl; have hcz35_1 : w34.cell? ⟨gb204, 1, none⟩ = some (.int .i64 t198) := (blk_cell BK204.out 1).trans rfl; have hcz35_2 : w34.cell? ⟨gb204, 2, none⟩ = some (.slice Ao29 t199.length co29) := (blk_cell BK204.out 2).trans rfl; have hfz35_0 := blk_frozen BK204.out 0; have hfz35_1 := blk_frozen BK204.out 1; have hfz35_2 := blk_frozen BK204.out 2; have hnb36 := NB196_0.out; have hnc36 := NB0_196.out; have hcz37_0 : w34.cell? ⟨gb196, 0, none⟩ = some (.int .i64 0) := (blk_cell BK196.out 0).trans rfl; have hcz37_1 : w34.cell? ⟨gb196, 1, none⟩ = some (.int .i64 0) := (blk_cell BK196.out 1).trans rfl; have hcz37_2 : w34.cell? ⟨gb196, 2, none⟩ = some (.slice none 0 0) := (blk_cell BK196.out 2).trans rfl; have hfz37_0 := blk_frozen BK196.out 0; have hfz37_1 := blk_frozen BK196.out 1; have hfz37_2 := blk_frozen BK196.out 2))
   refine bodyPost_ret (results_cell_row rfl _ _ gb196 34 #[.int .i64 t197, .int .i64 t217, .slice Ao29 t199.length co29] (0, 0) _ rfl (by refine qK ?_; refine blk_put (cs := #[.int .i64 t197, .int .i64 t217, .slice none 0 0]) ?_ 2 _ rfl; refine qK ?_; refine blk_put (cs := #[.int .i64 t197, .int .i64 0, .slice none 0 0]) ?_ 1 _ rfl; refine qK ?_; refine blk_put (cs := #[.int .i64 0, .int .i64 0, .slice none 0 0]) ?_ 0 _ rfl; refine qK ?_; refine blk_far ?_ NB196_204.out _; refine qK ?_; exact BK196.out) Try.underlying34 rfl (by kernel_rfl)) rfl ?_
   exact ⟨_, qe, Kd.Q_of_R (by refine qR ?_; exact Kd.R_mono (Kd.R_far (p := ⟨gb196, 2, none⟩) (Kd.R_far (p := ⟨gb196, 1, none⟩) (Kd.R_far (p := ⟨gb196, 0, none⟩) (Kd.R_far (p := ⟨gb204, 1, none⟩) (Kd.R_types (Kd.R_types HO201.out BK204.out (by decide)) BK196.out (by decide)) (fun _ hk => hk.1.2) (.int .i64 t217)) (fun _ hk => hk.2) (.int .i64 t197)) (fun _ hk => hk.2) (.int .i64 t217)) (fun _ hk => hk.2) (.slice Ao29 t199.length co29)) (fun _ hk => trivial)), by repeat (first | (with_reducible first | exact HI0.out | apply IsS126.alloc | apply IsS126.drewN | apply IsS126.drew | apply IsS126.set_1 | apply IsS126.set_2 | refine IsS126.far ?_ NB0_196.out _ | refine IsS126.far ?_ NB0_204.out _) | exact HI0.out), qb3 HB.out (IsS126.ge HI0.out) GE196.out GE204.out, qh2 HK.out GW196.out GW204.out⟩
  ·rw [if_neg c21] at H
   have c21b0 : (t205 == 1) = false := beq_eq_false_iff_ne.mpr c21
   have c21b1 : (t205 != 1) = true := bne_iff_ne.mpr c21
   by_cases c38 : t205 = 2
   ·rw [if_pos c38] at H
    have c38b0 : (t205 == 2) = true := beq_iff_eq.mpr c38
    have c38b1 : (t205 != 2) = false := bne_eq_false_iff_eq.mpr c38
    clear c38
    obtain ⟨y220, hy220⟩ : ∃ y_ : List Int, y_ = (([(-1), 16, 17] : List Int)) := ⟨_, rfl⟩
    replace H : ((spec_l01PickInt.f s0_0 t206 t207 y220).bind fun bt223 => (if 0 < (t199.length : Int) then (some (t197, t198, (t199.set (0 : Int).toNat bt223.1), bt223.2.1, bt223.2.2)) else (none))) = some (r1, r2, r3, r4, r5) := by first | (rw [hy220]; with_reducible exact H) | (have H2_ := (Option.bind_some _ _).symm.trans H; rw [hy220]; with_reducible exact H2_) | (have H2_ := (Option.bind_some _ _).symm.trans H; with_reducible exact H2_) | with_reducible exact H | (rw [hy220]; exact H) | exact H
    have Ny220 := Aside0.mk hy220
    clear hy220
    replace H := Option.bind_eq_some_iff.mp H
    obtain ⟨⟨t223, t224, t225⟩, A390, H⟩ := H
    replace H : (if 0 < (t199.length : Int) then (some (t197, t198, (t199.set (0 : Int).toNat t223), t224, t225)) else (none)) = some (r1, r2, r3, r4, r5) := H
    have A39 := Aside0.mk A390
    clear A390
    by_cases c40 : 0 < (t199.length : Int)
    ·rw [if_pos c40] at H
     have c40b0 : decide (0 < (t199.length : Int)) = true := decide_eq_true c40
     have c40b1 : decide (0 < t199.length) = true := decide_eq_true (by omega)
     clear c40
     obtain ⟨y226, hy226⟩ : ∃ y_ : List Int, y_ = (t199.set (0 : Int).toNat t223) := ⟨_, rfl⟩
     replace H : (some (t197, t198, y226, t224, t225)) = some (r1, r2, r3, r4, r5) := by first | (rw [hy226]; with_reducible exact H) | (have H2_ := (Option.bind_some _ _).symm.trans H; rw [hy226]; with_reducible exact H2_) | (have H2_ := (Option.bind_some _ _).symm.trans H; with_reducible exact H2_) | with_reducible exact H | (rw [hy226]; exact H) | exact H
     have Ny226 := Aside0.mk hy226
     clear hy226
     simp only [Option.some.injEq, Prod.mk.injEq] at H
     obtain ⟨rfl, rfl, rfl, rfl, rfl⟩ := H
     go_enter Try.func103, Try.ntmps103
     try go_wp2_with (first | ((with_reducible refine gate_dst (N := 2) rfl ?_); refine box_event ?hg (N := 2) ?hd (cs := #[.int .i64 0, .int .i64 0, .slice none 0 0]) (t := 34) ?hr ?_; (case hd => rfl); (case hg => rfl); (case hr => first | (go_simp; done) | (go_simp; rfl)); intro gb196 hg w42 hbox hb; have n0_ := Aside0.mk (IsS126.below (by repeat (first | (with_reducible first | exact HI0.out | apply IsS126.alloc | apply IsS126.drewN | apply IsS126.drew | apply IsS126.set_1 | apply IsS126.set_2) | exact HI0.out)) hb); have n1_ := Aside0.mk (KeepBut.trans (qh HK.out) (KeepBut.of_below hb g none) (.inl rfl)); have n2_ := Aside0.mk (below_step (qb1 HB.out (IsS126.ge HI0.out)) hb); have n3_ := Aside0.mk (hbox); have n4_ := Aside0.mk ((by rw [hg]; exact (keep_size (w := w) (g := g) (row := none) (qh HK.out)) : w.heap.size ≤ gb196)); have n5_ := Aside0.mk ((Nat.le_trans HW0.out (by rw [hg]; exact (keep_size (w := w) (g := g) (row := none) (qh HK.out)) : w.heap.size ≤ gb196) : w0.heap.size ≤ gb196)); have n6_ := Aside0.mk ((by rw [hg]; exact Nat.ne_of_lt (IsS126.lt (show IsS126 w0 _ g s0_0 s0_1 s0_2 from by repeat (first | (with_reducible first | exact HI0.out | apply IsS126.alloc | apply IsS126.drewN | apply IsS126.drew | apply IsS126.set_1 | apply IsS126.set_2) | exact HI0.out))) : g ≠ gb196)); have n7_ := Aside0.mk ((by rw [hg]; exact Nat.ne_of_gt (IsS126.lt (show IsS126 w0 _ g s0_0 s0_1 s0_2 from by repeat (first | (with_reducible first | exact HI0.out | apply IsS126.alloc | apply IsS126.drewN | apply IsS126.drew | apply IsS126.set_1 | apply IsS126.set_2) | exact HI0.out))) : gb196 ≠ g)); clear HI0; clear HK; clear HB; have HI0 := n0_; have HK := n1_; have HB := n2_; have BK196 := n3_; have GW196 := n4_; have GE196 := n5_; have NB0_196 := n6_; have NB196_0 := n7_; clear n0_ n1_ n2_ n3_ n4_ n5_ n6_ n7_; clear hb hbox hg) | ((with_reducible refine gate_callee (f := 116) rfl ?_); refine goesL_ (some 5) rfl rfl Try.func116 (by kernel_rfl) rfl #[.pointer (some ⟨g, 0, none⟩)] rfl qm ?_; (with_reducible refine (spec_l03Inode.calls g s0_0 s0_1 s0_2 t197 t198 t199 t202 t203 w0 _ ?side1 ?side2 A2.out).mono ?_); (case side1 => repeat (first | (with_reducible first | exact HI0.out | apply IsS126.alloc | apply IsS126.drewN | apply IsS126.drew | apply IsS126.set_1 | apply IsS126.set_2 | refine IsS126.far ?_ NB0_196.out _) | exact HI0.out)); (case side2 => repeat (first | (with_reducible first | exact HB.out | apply below_alloc | apply pw_below_drewN | apply below_drew1 | refine below_set ?_ (IsS126.ge HI0.out) | refine below_set ?_ GE196.out) | exact HB.out)); rintro e w43 ⟨v200, rfl, ho0, hi, hb, hk⟩; refine ⟨_, rfl, ?_⟩; have n0_ := Aside0.mk (KeepBut.blk hk (g' := gb196) (o := .cells #[.int .i64 0, .int .i64 0, .slice none 0 0] 34 (0, 0)) (qk BK196.out) NB196_0.out (by simp)); have n1_ := Aside0.mk (Kd.R_lower ho0 (keep_size (w := w) (g := g) (row := none) (qh1 HK.out GW196.out))); have n2_ := Aside0.mk (KeepBut.trans (qh1 HK.out GW196.out) hk (.inl rfl)); have n3_ := Aside0.mk (hb); have n4_ := Aside0.mk (hi); clear BK196; clear HK; clear HB; clear HI0; have BK196 := n0_; have HO201 := n1_; have HK := n2_; have HB := n3_; have HI0 := n4_; clear n0_ n1_ n2_ n3_ n4_; (try clear hb); (try clear hb2); (try clear hk); (try clear hi); (try clear ho0)) | ((with_reducible refine gate_dst (N := 3) rfl ?_); refine box_event ?hg (N := 3) ?hd (cs := #[.int .i64 0, .int .i64 0, .slice none 0 0]) (t := 34) ?hr ?_; (case hd => rfl); (case hg => rfl); (case hr => first | (go_simp; done) | (go_simp; rfl)); intro gb204 hg w44 hbox hb; have n0_ := Aside0.mk (Kd.R_below (qr HO201.out) hb); have n1_ := Aside0.mk (IsS126.below (by repeat (first | (with_reducible first | exact HI0.out | apply IsS126.alloc | apply IsS126.drewN | apply IsS126.drew | apply IsS126.set_1 | apply IsS126.set_2 | refine IsS126.far ?_ NB0_196.out _) | exact HI0.out)) hb); have n2_ := Aside0.mk (blk_below (g := gb196) (o := .cells #[.int .i64 0, .int .i64 0, .slice none 0 0] 34 (0, 0)) (qk BK196.out) hb); have n3_ := Aside0.mk (KeepBut.trans (qh1 HK.out GW196.out) (KeepBut.of_below hb g none) (.inl rfl)); have n4_ := Aside0.mk (below_step (qb2 HB.out (IsS126.ge HI0.out) GE196.out) hb); have n5_ := Aside0.mk (hbox); have n6_ := Aside0.mk ((by rw [hg]; exact (keep_size (w := w) (g := g) (row := none) (qh1 HK.out GW196.out)) : w.heap.size ≤ gb204)); have n7_ := Aside0.mk ((Nat.le_trans HW0.out (by rw [hg]; exact (keep_size (w := w) (g := g) (row := none) (qh1 HK.out GW196.out)) : w.heap.size ≤ gb204) : w0.heap.size ≤ gb204)); have n8_ := Aside0.mk ((by rw [hg]; exact Nat.ne_of_lt (blk_lt (g := gb196) (o := .cells #[.int .i64 0, .int .i64 0, .slice none 0 0] 34 (0, 0)) (qk BK196.out)) : gb196 ≠ gb204)); have n9_ := Aside0.mk ((by rw [hg]; exact Nat.ne_of_gt (blk_lt (g := gb196) (o := .cells #[.int .i64 0, .int .i64 0, .slice none 0 0] 34 (0, 0)) (qk BK196.out)) : gb204 ≠ gb196)); have n10_ := Aside0.mk ((by rw [hg]; exact Nat.ne_of_lt (IsS126.lt (show IsS126 w0 _ g s0_0 t202 t203 from by repeat (first | (with_reducible first | exact HI0.out | apply IsS126.alloc | apply IsS126.drewN | apply IsS126.drew | apply IsS126.set_1 | apply IsS126.set_2 | refine IsS126.far ?_ NB0_196.out _) | exact HI0.out))) : g ≠ gb204)); have n11_ := Aside0.mk ((by rw [hg]; exact Nat.ne_of_gt (IsS126.lt (show IsS126 w0 _ g s0_0 t202 t203 from by repeat (first | (with_reducible first | exact HI0.out | apply IsS126.alloc | apply IsS126.drewN | apply IsS126.drew | apply IsS126.set_1 | apply IsS126.set_2 | refine IsS126.far ?_ NB0_196.out _) | exact HI0.out))) : gb204 ≠ g)); clear HO201; clear HI0; clear BK196; clear HK; clear HB; have HO201 := n0_; have HI0 := n1_; have BK196 := n2_; have HK := n3_; have HB := n4_; have BK204 := n5_; have GW204 := n6_; have GE204 := n7_; have NB196_204 := n8_; have NB204_196 := n9_; have NB0_204 := n10_; have NB204_0 := n11_; clear n0_ n1_ n2_ n3_ n4_ n5_ n6_ n7_ n8_ n9_ n10_ n11_; clear hb hbox hg; have hnb45 := NB204_196.out; have hnc45 := NB196_204.out; have hnb46 := NB204_0.out; have hnc46 := NB0_204.out; have hcz47_0 : w44.cell? ⟨gb204, 0, none⟩ = some (.int .i64 0) := (blk_cell BK204.out 0).trans rfl; have hcz47_1 : w44.cell? ⟨gb204, 1, none⟩ = some (.int .i64 0) := (blk_cell BK204.out 1).trans rfl; have hcz47_2 : w44.cell? ⟨gb204, 2, none⟩ = some (.slice none 0 0) := (blk_cell BK204.out 2).trans rfl; have hfz47_0 := blk_frozen BK204.out 0; have hfz47_1 := blk_frozen BK204.out 1; have hfz47_2 := blk_frozen BK204.out 2; obtain ⟨Ao48, co48, eo48⟩ := Kd.R_slice HO201.out; subst eo48) | ((with_reducible refine gate_callee (f := 73) rfl ?_); refine goesL_ (some 7) rfl rfl Try.func73 (by kernel_rfl) rfl #[.pointer (some ⟨g, 0, none⟩), .int .i64 12] rfl qm ?_; (with_reducible refine (spec_l01Below.calls g s0_0 t202 t203 12 t205 t206 t207 w0 _ ?side1 ?side2 A3.out).mono ?_); (case side1 => repeat (first | (with_reducible first | exact HI0.out | apply IsS126.alloc | apply IsS126.drewN | apply IsS126.drew | apply IsS126.set_1 | apply IsS126.set_2 | refine IsS126.far ?_ NB0_196.out _ | refine IsS126.far ?_ NB0_204.out _) | exact HI0.out)); (case side2 => repeat (first | (with_reducible first | exact HB.out | apply below_alloc | apply pw_below_drewN | apply below_drew1 | refine below_set ?_ (IsS126.ge HI0.out) | refine below_set ?_ GE196.out | refine below_set ?_ GE204.out) | exact HB.out)); rintro e w49 ⟨rfl, hi, hb, hk⟩; refine ⟨_, rfl, ?_⟩; have n0_ := Aside0.mk (KeepBut.blk hk (g' := gb196) (o := .cells #[.int .i64 0, .int .i64 0, .slice none 0 0] 34 (0, 0)) (by refine qK ?_; refine blk_far ?_ NB196_204.out _; refine qK ?_; refine blk_far ?_ NB196_204.out _; refine qK ?_; refine blk_far ?_ NB196_204.out _; refine qK ?_; exact BK196.out) NB196_0.out (by simp)); have n1_ := Aside0.mk (Kd.R_mono (Kd.R_keep (IsS126.apart (show IsS126 w0 _ g s0_0 t202 t203 from by repeat (first | (with_reducible first | exact HI0.out | apply IsS126.alloc | apply IsS126.drewN | apply IsS126.drew | apply IsS126.set_1 | apply IsS126.set_2 | refine IsS126.far ?_ NB0_196.out _ | refine IsS126.far ?_ NB0_204.out _) | exact HI0.out)) (by refine qR ?_; exact (Kd.R_mono (Kd.R_far (p := ⟨gb204, 2, none⟩) (Kd.R_far (p := ⟨gb204, 1, none⟩) (Kd.R_far (p := ⟨gb204, 0, none⟩) (Kd.R_types HO201.out BK204.out (by decide)) (fun _ hk => hk.2) (.int .i64 t197)) (fun _ hk => hk.2) (.int .i64 t198)) (fun _ hk => hk.2) (.slice Ao48 t199.length co48)) (fun _ h_ => h_.1))) (by decide)) hk (fun _ h => h.2)) (fun _ h => h.1)); have n2_ := Aside0.mk (KeepBut.blk hk (g' := gb204) (o := .cells #[.int .i64 t197, .int .i64 t198, .slice Ao48 t199.length co48] 34 (0, 0)) (by refine qK ?_; refine blk_put (cs := #[.int .i64 t197, .int .i64 t198, .slice none 0 0]) ?_ 2 _ rfl; refine qK ?_; refine blk_put (cs := #[.int .i64 t197, .int .i64 0, .slice none 0 0]) ?_ 1 _ rfl; refine qK ?_; refine blk_put (cs := #[.int .i64 0, .int .i64 0, .slice none 0 0]) ?_ 0 _ rfl; refine qK ?_; exact BK204.out) NB204_0.out (by simp)); have n3_ := Aside0.mk (KeepBut.trans (qh2 HK.out GW196.out GW204.out) hk (.inl rfl)); have n4_ := Aside0.mk (hb); have n5_ := Aside0.mk (hi); clear BK196; clear HO201; clear BK204; clear HK; clear HB; clear HI0; have BK196 := n0_; have HO201 := n1_; have BK204 := n2_; have HK := n3_; have HB := n4_; have HI0 := n5_; clear n0_ n1_ n2_ n3_ n4_ n5_; (try clear hb); (try clear hb2); (try clear hk); (try clear hi)))
     have n0_ := Aside0.mk (Kd.R_drew HO201.out)
     have n1_ := Aside0.mk (blk_drew BK196.out)
     have n2_ := Aside0.mk (blk_drew BK204.out)
     have n3_ := Aside0.mk (IsS126.drew HI0.out)
     have n4_ := Aside0.mk (keep_drew HK.out)
     have n5_ := Aside0.mk (below_drew1 HB.out)
     clear HO201
     clear BK196
     clear BK204
     clear HI0
     clear HK
     clear HB
     have HO201 := n0_
     have BK196 := n1_
     have BK204 := n2_
     have HI0 := n3_
     have HK := n4_
     have HB := n5_
     clear n0_ n1_ n2_ n3_ n4_ n5_
     refine start_ (n := 7) (S := fun w' => w'.cell? ⟨gb204, 0, none⟩ = some (.int .i64 t197) ∧ w'.cell? ⟨gb204, 1, none⟩ = some (.int .i64 t198) ∧ w'.cell? ⟨gb204, 2, none⟩ = some (.slice Ao48 t199.length co48)) (ds := [6]) #[false, false, false, false, false, false, false] (by kernel_rfl) rfl rfl ⟨(blk_cell BK204.out 0).trans rfl, (blk_cell BK204.out 1).trans rfl, (blk_cell BK204.out 2).trans rfl⟩ (fun hHeld => ?_)
     generalize w49.drew = w50 at HO201 BK196 BK204 HI0 HK HB hHeld ⊢
     refine pure_ (i := 0) (N := some 22) (v := ?_) (a' := ?_) #[true, false, false, false, false, false, false] rfl rfl (by kernel_rfl) (fun _ _ _ h => h) (Or.inl ⟨by rfl, ?_⟩) ?_ ?_
     rotate_left
     ·intro w'
      go_simp
      with_reducible rfl
     rotate_left
     ·refine qp ?_
      rfl
     refine pure_ (i := 2) (N := some 24) (v := ?_) (a' := ?_) #[true, false, true, false, false, false, false] rfl rfl (by kernel_rfl) (fun _ _ _ h => h) (Or.inl ⟨by rfl, ?_⟩) ?_ ?_
     rotate_left
     ·intro w'
      go_simp
      with_reducible rfl
     rotate_left
     ·refine qp ?_
      rfl
     refine take_ (i := 1) (N := some 23) (v := ?_) (a' := ?_) #[true, true, true, false, false, false, false] rfl rfl (by kernel_rfl) (fun _ _ _ h => h) (Or.inl ⟨by rfl, ?_⟩) hHeld ?_ ?_
     rotate_left
     ·rintro w' ⟨s0, s1, s2⟩
      go_simp
      with_reducible rfl
     rotate_left
     ·refine qp ?_
      rfl
     refine one_ (i := 3) (N := some 25) #[true, true, true, true, false, false, false] rfl rfl (by kernel_rfl) (by decide) (fun K hK => ?_)
     refine Kd.R_lit_step (Kd.int .i64) _ 3 ?hg (N := 25) ?hd (xs := ([(-1), 16, 17] : List Int)) (inner := [.int .i64 (-1), .int .i64 16, .int .i64 17]) (ok := fun _ => True) (okp := fun _ => True) ?hr ?hp (fun _ hk => hk) trivial (Below.refl _ _) (Nat.le_refl _) (by simp) ?_; (case hd => rfl); (case hg => rfl); (case hr => first | (go_simp; done) | (go_simp; rfl)); (case hp => exact (Reps.one (show Kd.M (Kd.int .i64) _ _ _ (-1) [.int .i64 (-1)] from rfl) (Reps.one (show Kd.M (Kd.int .i64) _ _ _ 16 [.int .i64 16] from rfl) (Reps.one (show Kd.M (Kd.int .i64) _ _ _ 17 [.int .i64 17] from rfl) (Reps.none _ _)))))
     intro v221 w51 ho52 hb hg_ hnew_
     clear hg_ hnew_
     (first | rw [← Ny220.out] at ho52 | (simp only [Int.reduceToNat] at ho52; rw [← Ny220.out] at ho52))
     have n0_ := Aside0.mk (Kd.R_elder' (qr HO201.out) (Kd.R_base ho52) hb)
     have n1_ := Aside0.mk (Kd.R_lower (Kd.R_new' ho52 (Kd.R_lt (qr HO201.out))) (keep_size (w := w) (g := g) (row := none) (qh2 HK.out GW196.out GW204.out)))
     have n2_ := Aside0.mk (IsS126.below (by repeat (first | (with_reducible first | exact HI0.out | apply IsS126.alloc | apply IsS126.drewN | apply IsS126.drew | apply IsS126.set_1 | apply IsS126.set_2 | refine IsS126.far ?_ NB0_196.out _ | refine IsS126.far ?_ NB0_204.out _) | exact HI0.out)) hb)
     have n3_ := Aside0.mk (blk_below (g := gb196) (o := .cells #[.int .i64 0, .int .i64 0, .slice none 0 0] 34 (0, 0)) (qk BK196.out) hb)
     have n4_ := Aside0.mk (blk_below (g := gb204) (o := .cells #[.int .i64 t197, .int .i64 t198, .slice Ao48 t199.length co48] 34 (0, 0)) (qk BK204.out) hb)
     have n5_ := Aside0.mk (KeepBut.trans (qh2 HK.out GW196.out GW204.out) (KeepBut.of_below hb g none) (.inl rfl))
     have n6_ := Aside0.mk (below_step (qb3 HB.out (IsS126.ge HI0.out) GE196.out GE204.out) hb)
     clear HO201
     clear HI0
     clear BK196
     clear BK204
     clear HK
     clear HB
     have HO201 := n0_
     have HO222 := n1_
     have HI0 := n2_
     have BK196 := n3_
     have BK204 := n4_
     have HK := n5_
     have HB := n6_
     clear n0_ n1_ n2_ n3_ n4_ n5_ n6_
     clear hb ho52
     obtain ⟨Ao53, co53, eo53⟩ := Kd.R_slice HO222.out
     (first | subst eo53 | (injection eo53 with f1_ f2_ f3_; have f4_ := f1_.symm; have f5_ := f3_.symm; clear f1_ f2_ f3_; subst f4_; subst f5_))
     refine hK.out _ _ ⟨(blk_cell BK204.out 0).trans rfl, (blk_cell BK204.out 1).trans rfl, (blk_cell BK204.out 2).trans rfl⟩ (fun hHeld => ?_)
     clear hK K
     refine norm_ (a' := ?_) ?_ ?_
     rotate_left
     ·show Act.put _ (some 25) _ = _
      refine qp ?_
      rfl
     refine one_ (i := 4) (N := some 26) #[true, true, true, true, true, false, false] rfl rfl (by kernel_rfl) (by decide) (fun K hK => ?_)
     refine goes_ Try.func92 (by kernel_rfl) rfl #[.pointer (some ⟨g, 0, none⟩), .slice Ao53 y220.length co53] (by rfl) rfl rfl qm ?_
     with_reducible refine (spec_l01PickInt.calls g s0_0 t206 t207 _ _ y220 t223 t224 t225 w0 _ ?side1 ?side2 ?side3 ?side4 ?side5 A39.out).mono ?_
     (case side1 => repeat (first | (with_reducible first | exact HI0.out | apply IsS126.alloc | apply IsS126.drewN | apply IsS126.drew | apply IsS126.set_1 | apply IsS126.set_2 | refine IsS126.far ?_ NB0_196.out _ | refine IsS126.far ?_ NB0_204.out _) | exact HI0.out))
     (case side2 => repeat (first | (with_reducible first | exact HB.out | apply below_alloc | apply pw_below_drewN | apply below_drew1 | refine below_set ?_ (IsS126.ge HI0.out) | refine below_set ?_ GE196.out | refine below_set ?_ GE204.out) | exact HB.out))
     (case side3 => repeat (first | exact (Kd.R_reads' HO222.out).2.2 | (with_reducible refine Kd.C_alloc ?_ _) | (with_reducible refine Kd.C_drewN ?_ _) | (with_reducible refine Kd.C_drew ?_)))
     (case side4 => exact (Kd.R_reads' HO222.out).2.1)
     (case side5 => exact far_slice (IsS126.own_ne HI0.out HO222.out (by decide)))
     rintro e w54 ⟨rfl, hi, hb, hk⟩
     refine ⟨_, rfl, ?_⟩
     have n0_ := Aside0.mk (KeepBut.blk hk (g' := gb196) (o := .cells #[.int .i64 0, .int .i64 0, .slice none 0 0] 34 (0, 0)) (qk BK196.out) NB196_0.out (by simp))
     have n1_ := Aside0.mk (Kd.R_mono (Kd.R_keep (IsS126.apart (show IsS126 w0 _ g s0_0 t206 t207 from by repeat (first | (with_reducible first | exact HI0.out | apply IsS126.alloc | apply IsS126.drewN | apply IsS126.drew | apply IsS126.set_1 | apply IsS126.set_2 | refine IsS126.far ?_ NB0_196.out _ | refine IsS126.far ?_ NB0_204.out _) | exact HI0.out)) (qr HO201.out) (by decide)) hk (fun _ h => h.2)) (fun _ h => h.1))
     have n2_ := Aside0.mk (KeepBut.blk hk (g' := gb204) (o := .cells #[.int .i64 t197, .int .i64 t198, .slice Ao48 t199.length co48] 34 (0, 0)) (qk BK204.out) NB204_0.out (by simp))
     have n3_ := Aside0.mk (Kd.R_mono (Kd.R_keep (IsS126.apart (show IsS126 w0 _ g s0_0 t206 t207 from by repeat (first | (with_reducible first | exact HI0.out | apply IsS126.alloc | apply IsS126.drewN | apply IsS126.drew | apply IsS126.set_1 | apply IsS126.set_2 | refine IsS126.far ?_ NB0_196.out _ | refine IsS126.far ?_ NB0_204.out _) | exact HI0.out)) (qr HO222.out) (by decide)) hk (fun _ h => h.2)) (fun _ h => h.1))
     have n4_ := Aside0.mk (KeepBut.trans (qh2 HK.out GW196.out GW204.out) hk (.inl rfl))
     have n5_ := Aside0.mk (hb)
     have n6_ := Aside0.mk (hi)
     clear BK196
     clear HO201
     clear BK204
     clear HO222
     clear HK
     clear HB
     clear HI0
     have BK196 := n0_
     have HO201 := n1_
     have BK204 := n2_
     have HO222 := n3_
     have HK := n4_
     have HB := n5_
     have HI0 := n6_
     clear n0_ n1_ n2_ n3_ n4_ n5_ n6_
     (try clear hb)
     (try clear hb2)
     (try clear hk)
     (try clear hi)
     have p41 : 0 ≤ (0 : Int) := (by omega)
     have q41 : (0 : Int) < ((t199.length : Int) : Int) := qo
     have qi41 : (0 < t199.length) = True := eq_true (by omega)
     obtain ⟨go41, co41, eo41, gb41, gl41, cl41, HG41⟩ := Kd.R_form HO201.out (by omega)
     (first | cases eo41 | (injection eo41 with ea_ en_ ec_; (first | subst ea_ | (injection ea_ with ea_; subst ea_)); subst ec_; clear en_))
     have GB41 := Aside0.mk gb41
     have GG41 := Aside0.mk HG41
     clear gb41 gl41 HG41
     obtain ⟨hx41_0, hf41_0⟩ := Kd.R_celln 0 HO201.out (0 : Int) p41 q41
     (try rw [show ((0 : Int)).toNat = 0 from rfl] at hx41_0)
     (try simp only [Nat.reduceMul, Nat.zero_mul, Nat.zero_add, Nat.reduceAdd] at hx41_0)
     (try rw [show ((0 : Int)).toNat = 0 from rfl] at hf41_0)
     (try simp only [Nat.reduceMul, Nat.zero_mul, Nat.zero_add, Nat.reduceAdd] at hf41_0)
     replace p41 := eq_true p41
     replace q41 := eq_true q41
     have HN0_go41 := Aside0.mk (show g ≠ go41 from by have h_ := IsS126.own_ne HI0.out HO201.out (by decide); intro e_; exact h_ (by rw [e_]; rfl))
     have HP55 := Kd.R_putn HO201.out (0 : Int) t223
     rw [← Ny226.out] at HP55
     have HQ55 := Aside0.mk HP55
     clear HP55
     refine hK.out _ _ ⟨(blk_cell BK204.out 0).trans rfl, (blk_cell BK204.out 1).trans rfl, (blk_cell BK204.out 2).trans rfl⟩ (fun hHeld => ?_)
     clear hK K
     refine norm_ (a' := ?_) ?_ ?_
     rotate_left
     ·show Act.put _ (some 26) _ = _
      refine qp ?_
      rfl
     refine pure_ (i := 5) (N := some 27) (v := ?_) (a' := ?_) #[true, true, true, true, true, true, false] rfl rfl (by kernel_rfl) (fun _ _ _ h => h) (Or.inl ⟨by rfl, ?_⟩) ?_ ?_
     rotate_left
     ·intro w'
      go_simp
      with_reducible rfl
     rotate_left
     ·refine qp ?_
      rfl
     refine last_ (i := 6) (N := none) #[true, true, true, true, true, true, true] rfl rfl (by kernel_rfl) (by decide) (fun K hK => ?_)
     refine skip_ (w1 := ?_) (by rfl) rfl ?_ ?_
     rotate_left
     ·go_simp
      rfl
     refine hK.out _ _ ?_
     clear hK K
     refine done_ (by kernel_rfl) ?_
     have n0_ : Aside0 (Kd.R (Kd.int .i64) 3 (w54.setCell ⟨go41, 0, none⟩ (.int .i64 t223)) w.heap.size (fun k_ => some k_ ≠ (.slice Ao53 y220.length co53 : Value).ownBlock) (.slice (some ⟨go41, 0, none⟩) t199.length co48) y226) := ⟨by refine qR ?_; exact Kd.R_mono HQ55.out (fun _ hk => hk.2)⟩
     have n1_ : Aside0 (Kd.R (Kd.int .i64) 3 (w54.setCell ⟨go41, 0, none⟩ (.int .i64 t223)) w.heap.size (fun k_ => some k_ ≠ (.slice (some ⟨go41, 0, none⟩) t199.length co48 : Value).ownBlock) (.slice Ao53 y220.length co53) y220) := ⟨by refine qR ?_; exact Kd.R_mono (Kd.R_far (p := ⟨go41, 0, none⟩) (Kd.R_mono HO222.out (fun k_ hk => (⟨hk, fun e_ => hk.2 (by rw [e_]; rfl)⟩ : _ ∧ k_ ≠ go41))) (fun _ hk => hk.2) (.int .i64 t223)) (fun _ hk => hk.1.2)⟩
     have n2_ : Aside0 ((w54.setCell ⟨go41, 0, none⟩ (.int .i64 t223)).heap[gb196]? = some (.cells #[.int .i64 0, .int .i64 0, .slice none 0 0] 34 (0, 0))) := ⟨by refine qK ?_; refine blk_far ?_ (by have h_ := Kd.R_ne HO201.out BK196.out (by decide); intro e_; exact h_ (by rw [e_]; rfl)) _; refine qK ?_; exact BK196.out⟩
     have n3_ : Aside0 ((w54.setCell ⟨go41, 0, none⟩ (.int .i64 t223)).heap[gb204]? = some (.cells #[.int .i64 t197, .int .i64 t198, .slice (some ⟨go41, 0, none⟩) t199.length co48] 34 (0, 0))) := ⟨by refine qK ?_; refine blk_far ?_ (by have h_ := Kd.R_ne HO201.out BK204.out (by decide); intro e_; exact h_ (by rw [e_]; rfl)) _; refine qK ?_; exact BK204.out⟩
     have n4_ : Aside0 (IsS126 w0 (w54.setCell ⟨go41, 0, none⟩ (.int .i64 t223)) g s0_0 t224 t225) := ⟨by repeat (first | (with_reducible first | exact HI0.out | apply IsS126.alloc | apply IsS126.drewN | apply IsS126.drew | apply IsS126.set_1 | apply IsS126.set_2 | refine IsS126.far ?_ HN0_go41.out _ | refine IsS126.far ?_ NB0_196.out _ | refine IsS126.far ?_ NB0_204.out _) | exact HI0.out)⟩
     have n5_ : Aside0 (KeepBut w (w54.setCell ⟨go41, 0, none⟩ (.int .i64 t223)) g none) := ⟨qh3 HK.out GB41.out GW196.out GW204.out⟩
     have n6_ : Aside0 (Below w0.heap.size w0 (w54.setCell ⟨go41, 0, none⟩ (.int .i64 t223))) := ⟨by repeat (first | (with_reducible first | exact HB.out | apply below_alloc | apply pw_below_drewN | apply below_drew1 | refine below_set ?_ (Nat.le_trans HL.out GB41.out) | refine below_set ?_ (IsS126.ge HI0.out) | refine below_set ?_ GE196.out | refine below_set ?_ GE204.out) | exact HB.out)⟩
     (try clear HO201)
     (try clear HO222)
     (try clear BK196)
     (try clear BK204)
     (try clear HI0)
     (try clear HK)
     (try clear HB)
     generalize (w54.setCell ⟨go41, 0, none⟩ (.int .i64 t223)) = w56 at n0_ n1_ n2_ n3_ n4_ n5_ n6_ ⊢
     have HO201 := n0_
     have HO222 := n1_
     have BK196 := n2_
     have BK204 := n3_
     have HI0 := n4_
     have HK := n5_
     have HB := n6_
     clear n0_ n1_ n2_ n3_ n4_ n5_ n6_
     have hcz57_0 : w56.cell? ⟨gb204, 0, none⟩ = some (.int .i64 t197) := (blk_cell BK204.out 0).trans rfl
     have hcz57_1 : w56.cell? ⟨gb204, 1, none⟩ = some (.int .i64 t198) := (blk_cell BK204.out 1).trans rfl
     have hcz57_2 : w56.cell? ⟨gb204, 2, none⟩ = some (.slice (some ⟨go41, 0, none⟩) t199.length co48) := (blk_cell BK204.out 2).trans rfl
     have hfz57_0 := blk_frozen BK204.out 0
     have hfz57_1 := blk_frozen BK204.out 1
     have hfz57_2 := blk_frozen BK204.out 2
     have hnb58 := NB196_0.out
     have hnc58 := NB0_196.out
     have hcz59_0 : w56.cell? ⟨gb196, 0, none⟩ = some (.int .i64 0) := (blk_cell BK196.out 0).trans rfl
     have hcz59_1 : w56.cell? ⟨gb196, 1, none⟩ = some (.int .i64 0) := (blk_cell BK196.out 1).trans rfl
     have hcz59_2 : w56.cell? ⟨gb196, 2, none⟩ = some (.slice none 0 0) := (blk_cell BK196.out 2).trans rfl
     have hfz59_0 := blk_frozen BK196.out 0
     have hfz59_1 := blk_frozen BK196.out 1
     have hfz59_2 := blk_frozen BK196.out 2
     try go_wp2
     refine bodyPost_ret (results_cell_row rfl _ _ gb196 34 #[.int .i64 t197, .int .i64 t198, .slice (some ⟨go41, 0, none⟩) t199.length co48] (0, 0) _ rfl (by refine qK ?_; refine blk_put (cs := #[.int .i64 t197, .int .i64 t198, .slice none 0 0]) ?_ 2 _ rfl; refine qK ?_; refine blk_put (cs := #[.int .i64 t197, .int .i64 0, .slice none 0 0]) ?_ 1 _ rfl; refine qK ?_; refine blk_put (cs := #[.int .i64 0, .int .i64 0, .slice none 0 0]) ?_ 0 _ rfl; refine qK ?_; exact BK196.out) Try.underlying34 rfl (by kernel_rfl)) rfl ?_
     exact ⟨_, qe, Kd.Q_of_R (by refine qR ?_; exact Kd.R_mono (Kd.R_far (p := ⟨gb196, 2, none⟩) (Kd.R_far (p := ⟨gb196, 1, none⟩) (Kd.R_far (p := ⟨gb196, 0, none⟩) (Kd.R_types HO201.out BK196.out (by decide)) (fun _ hk => hk.2) (.int .i64 t197)) (fun _ hk => hk.2) (.int .i64 t198)) (fun _ hk => hk.2) (.slice (some ⟨go41, 0, none⟩) t199.length co48)) (fun _ hk => trivial)), by repeat (first | (with_reducible first | exact HI0.out | apply IsS126.alloc | apply IsS126.drewN | apply IsS126.drew | apply IsS126.set_1 | apply IsS126.set_2 | refine IsS126.far ?_ NB0_196.out _ | refine IsS126.far ?_ NB0_204.out _) | exact HI0.out), qb3 HB.out (IsS126.ge HI0.out) GE196.out GE204.out, qh2 HK.out GW196.out GW204.out⟩
    ·rw [if_neg c40] at H
     exact absurd H (by simp)
   ·rw [if_neg c38] at H
    have c38b0 : (t205 == 2) = false := beq_eq_false_iff_ne.mpr c38
    have c38b1 : (t205 != 2) = true := bne_iff_ne.mpr c38
    by_cases c60 : t205 = 3
    ·rw [if_pos c60] at H
     have c60b0 : (t205 == 3) = true := beq_iff_eq.mpr c60
     have c60b1 : (t205 != 3) = false := bne_eq_false_iff_eq.mpr c60
     clear c60
     by_cases c61 : 1 ≤ (t199.length : Int)
     ·rw [if_pos c61] at H
      have c61b0 := eq_true c61
      have c61b1 : decide (1 ≤ (t199.length : Int)) = true := decide_eq_true c61
      clear c61
      obtain ⟨y227, hy227⟩ : ∃ y_ : List Int, y_ = (t199.drop (1 : Int).toNat) := ⟨_, rfl⟩
      replace H : (some (t197, t198, y227, t206, t207)) = some (r1, r2, r3, r4, r5) := by first | (rw [hy227]; with_reducible exact H) | (have H2_ := (Option.bind_some _ _).symm.trans H; rw [hy227]; with_reducible exact H2_) | (have H2_ := (Option.bind_some _ _).symm.trans H; with_reducible exact H2_) | with_reducible exact H | (rw [hy227]; exact H) | exact H
      have Ny227 := Aside0.mk hy227
      clear hy227
      simp only [Option.some.injEq, Prod.mk.injEq] at H
      obtain ⟨rfl, rfl, rfl, rfl, rfl⟩ := H
      go_enter Try.func103, Try.ntmps103
      go_wp2_with (first | ((with_reducible refine gate_dst (N := 2) rfl ?_); refine box_event ?hg (N := 2) ?hd (cs := #[.int .i64 0, .int .i64 0, .slice none 0 0]) (t := 34) ?hr ?_; (case hd => rfl); (case hg => rfl); (case hr => first | (go_simp; done) | (go_simp; rfl)); intro gb196 hg w62 hbox hb; have n0_ := Aside0.mk (IsS126.below (by repeat (first | (with_reducible first | exact HI0.out | apply IsS126.alloc | apply IsS126.drewN | apply IsS126.drew | apply IsS126.set_1 | apply IsS126.set_2) | exact HI0.out)) hb); have n1_ := Aside0.mk (KeepBut.trans (qh HK.out) (KeepBut.of_below hb g none) (.inl rfl)); have n2_ := Aside0.mk (below_step (qb1 HB.out (IsS126.ge HI0.out)) hb); have n3_ := Aside0.mk (hbox); have n4_ := Aside0.mk ((by rw [hg]; exact (keep_size (w := w) (g := g) (row := none) (qh HK.out)) : w.heap.size ≤ gb196)); have n5_ := Aside0.mk ((Nat.le_trans HW0.out (by rw [hg]; exact (keep_size (w := w) (g := g) (row := none) (qh HK.out)) : w.heap.size ≤ gb196) : w0.heap.size ≤ gb196)); have n6_ := Aside0.mk ((by rw [hg]; exact Nat.ne_of_lt (IsS126.lt (show IsS126 w0 _ g s0_0 s0_1 s0_2 from by repeat (first | (with_reducible first | exact HI0.out | apply IsS126.alloc | apply IsS126.drewN | apply IsS126.drew | apply IsS126.set_1 | apply IsS126.set_2) | exact HI0.out))) : g ≠ gb196)); have n7_ := Aside0.mk ((by rw [hg]; exact Nat.ne_of_gt (IsS126.lt (show IsS126 w0 _ g s0_0 s0_1 s0_2 from by repeat (first | (with_reducible first | exact HI0.out | apply IsS126.alloc | apply IsS126.drewN | apply IsS126.drew | apply IsS126.set_1 | apply IsS126.set_2) | exact HI0.out))) : gb196 ≠ g)); clear HI0; clear HK; clear HB; have HI0 := n0_; have HK := n1_; have HB := n2_; have BK196 := n3_; have GW196 := n4_; have GE196 := n5_; have NB0_196 := n6_; have NB196_0 := n7_; clear n0_ n1_ n2_ n3_ n4_ n5_ n6_ n7_; clear hb hbox hg) | ((with_reducible refine gate_callee (f := 116) rfl ?_); refine goesL_ (some 5) rfl rfl Try.func116 (by kernel_rfl) rfl #[.pointer (some ⟨g, 0, none⟩)] rfl qm ?_; (with_reducible refine (spec_l03Inode.calls g s0_0 s0_1 s0_2 t197 t198 t199 t202 t203 w0 _ ?side1 ?side2 A2.out).mono ?_); (case side1 => repeat (first | (with_reducible first | exact HI0.out | apply IsS126.alloc | apply IsS126.drewN | apply IsS126.drew | apply IsS126.set_1 | apply IsS126.set_2 | refine IsS126.far ?_ NB0_196.out _) | exact HI0.out)); (case side2 => repeat (first | (with_reducible first | exact HB.out | apply below_alloc | apply pw_below_drewN | apply below_drew1 | refine below_set ?_ (IsS126.ge HI0.out) | refine below_set ?_ GE196.out) | exact HB.out)); rintro e w63 ⟨v200, rfl, ho0, hi, hb, hk⟩; refine ⟨_, rfl, ?_⟩; have n0_ := Aside0.mk (KeepBut.blk hk (g' := gb196) (o := .cells #[.int .i64 0, .int .i64 0, .slice none 0 0] 34 (0, 0)) (qk BK196.out) NB196_0.out (by simp)); have n1_ := Aside0.mk (Kd.R_lower ho0 (keep_size (w := w) (g := g) (row := none) (qh1 HK.out GW196.out))); have n2_ := Aside0.mk (KeepBut.trans (qh1 HK.out GW196.out) hk (.inl rfl)); have n3_ := Aside0.mk (hb); have n4_ := Aside0.mk (hi); clear BK196; clear HK; clear HB; clear HI0; have BK196 := n0_; have HO201 := n1_; have HK := n2_; have HB := n3_; have HI0 := n4_; clear n0_ n1_ n2_ n3_ n4_; (try clear hb); (try clear hb2); (try clear hk); (try clear hi); (try clear ho0)) | ((with_reducible refine gate_dst (N := 3) rfl ?_); refine box_event ?hg (N := 3) ?hd (cs := #[.int .i64 0, .int .i64 0, .slice none 0 0]) (t := 34) ?hr ?_; (case hd => rfl); (case hg => rfl); (case hr => first | (go_simp; done) | (go_simp; rfl)); intro gb204 hg w64 hbox hb; have n0_ := Aside0.mk (Kd.R_below (qr HO201.out) hb); have n1_ := Aside0.mk (IsS126.below (by repeat (first | (with_reducible first | exact HI0.out | apply IsS126.alloc | apply IsS126.drewN | apply IsS126.drew | apply IsS126.set_1 | apply IsS126.set_2 | refine IsS126.far ?_ NB0_196.out _) | exact HI0.out)) hb); have n2_ := Aside0.mk (blk_below (g := gb196) (o := .cells #[.int .i64 0, .int .i64 0, .slice none 0 0] 34 (0, 0)) (qk BK196.out) hb); have n3_ := Aside0.mk (KeepBut.trans (qh1 HK.out GW196.out) (KeepBut.of_below hb g none) (.inl rfl)); have n4_ := Aside0.mk (below_step (qb2 HB.out (IsS126.ge HI0.out) GE196.out) hb); have n5_ := Aside0.mk (hbox); have n6_ := Aside0.mk ((by rw [hg]; exact (keep_size (w := w) (g := g) (row := none) (qh1 HK.out GW196.out)) : w.heap.size ≤ gb204)); have n7_ := Aside0.mk ((Nat.le_trans HW0.out (by rw [hg]; exact (keep_size (w := w) (g := g) (row := none) (qh1 HK.out GW196.out)) : w.heap.size ≤ gb204) : w0.heap.size ≤ gb204)); have n8_ := Aside0.mk ((by rw [hg]; exact Nat.ne_of_lt (blk_lt (g := gb196) (o := .cells #[.int .i64 0, .int .i64 0, .slice none 0 0] 34 (0, 0)) (qk BK196.out)) : gb196 ≠ gb204)); have n9_ := Aside0.mk ((by rw [hg]; exact Nat.ne_of_gt (blk_lt (g := gb196) (o := .cells #[.int .i64 0, .int .i64 0, .slice none 0 0] 34 (0, 0)) (qk BK196.out)) : gb204 ≠ gb196)); have n10_ := Aside0.mk ((by rw [hg]; exact Nat.ne_of_lt (IsS126.lt (show IsS126 w0 _ g s0_0 t202 t203 from by repeat (first | (with_reducible first | exact HI0.out | apply IsS126.alloc | apply IsS126.drewN | apply IsS126.drew | apply IsS126.set_1 | apply IsS126.set_2 | refine IsS126.far ?_ NB0_196.out _) | exact HI0.out))) : g ≠ gb204)); have n11_ := Aside0.mk ((by rw [hg]; exact Nat.ne_of_gt (IsS126.lt (show IsS126 w0 _ g s0_0 t202 t203 from by repeat (first | (with_reducible first | exact HI0.out | apply IsS126.alloc | apply IsS126.drewN | apply IsS126.drew | apply IsS126.set_1 | apply IsS126.set_2 | refine IsS126.far ?_ NB0_196.out _) | exact HI0.out))) : gb204 ≠ g)); clear HO201; clear HI0; clear BK196; clear HK; clear HB; have HO201 := n0_; have HI0 := n1_; have BK196 := n2_; have HK := n3_; have HB := n4_; have BK204 := n5_; have GW204 := n6_; have GE204 := n7_; have NB196_204 := n8_; have NB204_196 := n9_; have NB0_204 := n10_; have NB204_0 := n11_; clear n0_ n1_ n2_ n3_ n4_ n5_ n6_ n7_ n8_ n9_ n10_ n11_; clear hb hbox hg; have hnb65 := NB204_196.out; have hnc65 := NB196_204.out; have hnb66 := NB204_0.out; have hnc66 := NB0_204.out; have hcz67_0 : w64.cell? ⟨gb204, 0, none⟩ = some (.int .i64 0) := (blk_cell BK204.out 0).trans rfl; have hcz67_1 : w64.cell? ⟨gb204, 1, none⟩ = some (.int .i64 0) := (blk_cell BK204.out 1).trans rfl; have hcz67_2 : w64.cell? ⟨gb204, 2, none⟩ = some (.slice none 0 0) := (blk_cell BK204.out 2).trans rfl; have hfz67_0 := blk_frozen BK204.out 0; have hfz67_1 := blk_frozen BK204.out 1; have hfz67_2 := blk_frozen BK204.out 2; obtain ⟨Ao68, co68, eo68⟩ := Kd.R_slice HO201.out; subst eo68) | ((with_reducible refine gate_callee (f := 73) rfl ?_); refine goesL_ (some 7) rfl rfl Try.func73 (by kernel_rfl) rfl #[.pointer (some ⟨g, 0, none⟩), .int .i64 12] rfl qm ?_; (with_reducible refine (spec_l01Below.calls g s0_0 t202 t203 12 t205 t206 t207 w0 _ ?side1 ?side2 A3.out).mono ?_); (case side1 => repeat (first | (with_reducible first | exact HI0.out | apply IsS126.alloc | apply IsS126.drewN | apply IsS126.drew | apply IsS126.set_1 | apply IsS126.set_2 | refine IsS126.far ?_ NB0_196.out _ | refine IsS126.far ?_ NB0_204.out _) | exact HI0.out)); (case side2 => repeat (first | (with_reducible first | exact HB.out | apply below_alloc | apply pw_below_drewN | apply below_drew1 | refine below_set ?_ (IsS126.ge HI0.out) | refine below_set ?_ GE196.out | refine below_set ?_ GE204.out) | exact HB.out)); rintro e w69 ⟨rfl, hi, hb, hk⟩; refine ⟨_, rfl, ?_⟩; have n0_ := Aside0.mk (KeepBut.blk hk (g' := gb196) (o := .cells #[.int .i64 0, .int .i64 0, .slice none 0 0] 34 (0, 0)) (by refine qK ?_; refine blk_far ?_ NB196_204.out _; refine qK ?_; refine blk_far ?_ NB196_204.out _; refine qK ?_; refine blk_far ?_ NB196_204.out _; refine qK ?_; exact BK196.out) NB196_0.out (by simp)); have n1_ := Aside0.mk (Kd.R_mono (Kd.R_keep (IsS126.apart (show IsS126 w0 _ g s0_0 t202 t203 from by repeat (first | (with_reducible first | exact HI0.out | apply IsS126.alloc | apply IsS126.drewN | apply IsS126.drew | apply IsS126.set_1 | apply IsS126.set_2 | refine IsS126.far ?_ NB0_196.out _ | refine IsS126.far ?_ NB0_204.out _) | exact HI0.out)) (by refine qR ?_; exact (Kd.R_mono (Kd.R_far (p := ⟨gb204, 2, none⟩) (Kd.R_far (p := ⟨gb204, 1, none⟩) (Kd.R_far (p := ⟨gb204, 0, none⟩) (Kd.R_types HO201.out BK204.out (by decide)) (fun _ hk => hk.2) (.int .i64 t197)) (fun _ hk => hk.2) (.int .i64 t198)) (fun _ hk => hk.2) (.slice Ao68 t199.length co68)) (fun _ h_ => h_.1))) (by decide)) hk (fun _ h => h.2)) (fun _ h => h.1)); have n2_ := Aside0.mk (KeepBut.blk hk (g' := gb204) (o := .cells #[.int .i64 t197, .int .i64 t198, .slice Ao68 t199.length co68] 34 (0, 0)) (by refine qK ?_; refine blk_put (cs := #[.int .i64 t197, .int .i64 t198, .slice none 0 0]) ?_ 2 _ rfl; refine qK ?_; refine blk_put (cs := #[.int .i64 t197, .int .i64 0, .slice none 0 0]) ?_ 1 _ rfl; refine qK ?_; refine blk_put (cs := #[.int .i64 0, .int .i64 0, .slice none 0 0]) ?_ 0 _ rfl; refine qK ?_; exact BK204.out) NB204_0.out (by simp)); have n3_ := Aside0.mk (KeepBut.trans (qh2 HK.out GW196.out GW204.out) hk (.inl rfl)); have n4_ := Aside0.mk (hb); have n5_ := Aside0.mk (hi); clear BK196; clear HO201; clear BK204; clear HK; clear HB; clear HI0; have BK196 := n0_; have HO201 := n1_; have BK204 := n2_; have HK := n3_; have HB := n4_; have HI0 := n5_; clear n0_ n1_ n2_ n3_ n4_ n5_; (try clear hb); (try clear hb2); (try clear hk); (try clear hi); have hcz70_0 : w69.cell? ⟨gb204, 0, none⟩ = some (.int .i64 t197) := (blk_cell BK204.out 0).trans rfl; have hcz70_1 : w69.cell? ⟨gb204, 1, none⟩ = some (.int .i64 t198) := (blk_cell BK204.out 1).trans rfl; have hcz70_2 : w69.cell? ⟨gb204, 2, none⟩ = some (.slice Ao68 t199.length co68) := (blk_cell BK204.out 2).trans rfl; have hfz70_0 := blk_frozen BK204.out 0; have hfz70_1 := blk_frozen BK204.out 1; have hfz70_2 := blk_frozen BK204.out 2; have q71 : (1 : Int) ≤ ((t199.length : Int) : Int) := qo; obtain ⟨i071, hi071, _, hsz71, _⟩ := info_parts info3; have hcut71 := cut_from (P := Try.prog) 31 3 .i64 Try.underlying31 hi071 1 hsz71 Ao68 t199.length co68 1 (by omega) q71; have hr71 := Kd.Q_drop (k := (1 : Int).toNat) (Kd.Q_of_R HO201.out) (by omega); obtain ⟨A71, hA71⟩ : ∃ A1, A1 = (if co68 = (1 : Int).toNat then Ao68 else (Ao68 : Option Addr).map (·.add ((1 : Int).toNat * 1))) := ⟨_, rfl⟩; obtain ⟨c71, hc71⟩ : ∃ c1, c1 = co68 - (1 : Int).toNat := ⟨_, rfl⟩; have hy71 : y227.length = t199.length - (1 : Int).toNat := (by rw [Ny227.out, List.length_drop]); rw [← Ny227.out] at hr71; rw [← hy71, ← hA71, ← hc71] at hcut71; replace hr71 : Kd.Q (Kd.int .i64) 3 w69 w.heap.size (fun _ => True) (.slice A71 y227.length c71) y227 := (by rw [hA71, hc71, hy71]; exact hr71); have HE71 : Aside0 ((Value.slice A71 y227.length c71).ownBlock = (.slice Ao68 t199.length co68 : Value).ownBlock) := ⟨by rw [hA71]; split <;> (cases (Ao68 : Option Addr) <;> rfl)⟩; clear hy71 hi071 hsz71 HO201 hA71 hc71; have HO229 := Aside0.mk hr71; clear hr71; replace q71 := eq_true q71; have hnb72 := NB196_0.out; have hnc72 := NB0_196.out; have hcz73_0 : w69.cell? ⟨gb196, 0, none⟩ = some (.int .i64 0) := (blk_cell BK196.out 0).trans rfl; have hcz73_1 : w69.cell? ⟨gb196, 1, none⟩ = some (.int .i64 0) := (blk_cell BK196.out 1).trans rfl; have hcz73_2 : w69.cell? ⟨gb196, 2, none⟩ = some (.slice none 0 0) := (blk_cell BK196.out 2).trans rfl; have hfz73_0 := blk_frozen BK196.out 0; have hfz73_1 := blk_frozen BK196.out 1; have hfz73_2 := blk_frozen BK196.out 2))
      refine bodyPost_ret (results_cell_row rfl _ _ gb196 34 #[.int .i64 t197, .int .i64 t198, .slice A71 y227.length c71] (0, 0) _ rfl (by refine qK ?_; refine blk_put (cs := #[.int .i64 t197, .int .i64 t198, .slice none 0 0]) ?_ 2 _ rfl; refine qK ?_; refine blk_put (cs := #[.int .i64 t197, .int .i64 0, .slice none 0 0]) ?_ 1 _ rfl; refine qK ?_; refine blk_put (cs := #[.int .i64 0, .int .i64 0, .slice none 0 0]) ?_ 0 _ rfl; refine qK ?_; refine blk_far ?_ NB196_204.out _; refine qK ?_; exact BK196.out) Try.underlying34 rfl (by kernel_rfl)) rfl ?_
      exact ⟨_, qe, by (with_reducible repeat (first | apply Kd.Q_alloc | apply Kd.Q_drewN | apply Kd.Q_drew)); exact Kd.Q_mono (Kd.Q_far (p := ⟨gb196, 2, none⟩) (Kd.Q_far (p := ⟨gb196, 1, none⟩) (Kd.Q_far (p := ⟨gb196, 0, none⟩) (Kd.Q_far (p := ⟨gb204, 2, none⟩) (Kd.Q_types (Kd.Q_types HO229.out BK204.out (by decide)) BK196.out (by decide)) (fun _ hk => hk.1.2) (.slice A71 y227.length c71)) (fun _ hk => hk.2) (.int .i64 t197)) (fun _ hk => hk.2) (.int .i64 t198)) (fun _ hk => hk.2) (.slice A71 y227.length c71)) (fun _ hk => trivial), by repeat (first | (with_reducible first | exact HI0.out | apply IsS126.alloc | apply IsS126.drewN | apply IsS126.drew | apply IsS126.set_1 | apply IsS126.set_2 | refine IsS126.far ?_ NB0_196.out _ | refine IsS126.far ?_ NB0_204.out _) | exact HI0.out), qb3 HB.out (IsS126.ge HI0.out) GE196.out GE204.out, qh2 HK.out GW196.out GW204.out⟩
     ·rw [if_neg c61] at H
      exact absurd H (by simp)
    ·rw [if_neg c60] at H
     have c60b0 : (t205 == 3) = false := beq_eq_false_iff_ne.mpr c60
     have c60b1 : (t205 != 3) = true := bne_iff_ne.mpr c60
     simp only [Option.some.injEq, Prod.mk.injEq] at H
     obtain ⟨rfl, rfl, rfl, rfl, rfl⟩ := H
     go_enter Try.func103, Try.ntmps103
     go_wp2_with (first | ((with_reducible refine gate_dst (N := 2) rfl ?_); refine box_event ?hg (N := 2) ?hd (cs := #[.int .i64 0, .int .i64 0, .slice none 0 0]) (t := 34) ?hr ?_; (case hd => rfl); (case hg => rfl); (case hr => first | (go_simp; done) | (go_simp; rfl)); intro gb196 hg w74 hbox hb; have n0_ := Aside0.mk (IsS126.below (by repeat (first | (with_reducible first | exact HI0.out | apply IsS126.alloc | apply IsS126.drewN | apply IsS126.drew | apply IsS126.set_1 | apply IsS126.set_2) | exact HI0.out)) hb); have n1_ := Aside0.mk (KeepBut.trans (qh HK.out) (KeepBut.of_below hb g none) (.inl rfl)); have n2_ := Aside0.mk (below_step (qb1 HB.out (IsS126.ge HI0.out)) hb); have n3_ := Aside0.mk (hbox); have n4_ := Aside0.mk ((by rw [hg]; exact (keep_size (w := w) (g := g) (row := none) (qh HK.out)) : w.heap.size ≤ gb196)); have n5_ := Aside0.mk ((Nat.le_trans HW0.out (by rw [hg]; exact (keep_size (w := w) (g := g) (row := none) (qh HK.out)) : w.heap.size ≤ gb196) : w0.heap.size ≤ gb196)); have n6_ := Aside0.mk ((by rw [hg]; exact Nat.ne_of_lt (IsS126.lt (show IsS126 w0 _ g s0_0 s0_1 s0_2 from by repeat (first | (with_reducible first | exact HI0.out | apply IsS126.alloc | apply IsS126.drewN | apply IsS126.drew | apply IsS126.set_1 | apply IsS126.set_2) | exact HI0.out))) : g ≠ gb196)); have n7_ := Aside0.mk ((by rw [hg]; exact Nat.ne_of_gt (IsS126.lt (show IsS126 w0 _ g s0_0 s0_1 s0_2 from by repeat (first | (with_reducible first | exact HI0.out | apply IsS126.alloc | apply IsS126.drewN | apply IsS126.drew | apply IsS126.set_1 | apply IsS126.set_2) | exact HI0.out))) : gb196 ≠ g)); clear HI0; clear HK; clear HB; have HI0 := n0_; have HK := n1_; have HB := n2_; have BK196 := n3_; have GW196 := n4_; have GE196 := n5_; have NB0_196 := n6_; have NB196_0 := n7_; clear n0_ n1_ n2_ n3_ n4_ n5_ n6_ n7_; clear hb hbox hg) | ((with_reducible refine gate_callee (f := 116) rfl ?_); refine goesL_ (some 5) rfl rfl Try.func116 (by kernel_rfl) rfl #[.pointer (some ⟨g, 0, none⟩)] rfl qm ?_; (with_reducible refine (spec_l03Inode.calls g s0_0 s0_1 s0_2 t197 t198 t199 t202 t203 w0 _ ?side1 ?side2 A2.out).mono ?_); (case side1 => repeat (first | (with_reducible first | exact HI0.out | apply IsS126.alloc | apply IsS126.drewN | apply IsS126.drew | apply IsS126.set_1 | apply IsS126.set_2 | refine IsS126.far ?_ NB0_196.out _) | exact HI0.out)); (case side2 => repeat (first | (with_reducible first | exact HB.out | apply below_alloc | apply pw_below_drewN | apply below_drew1 | refine below_set ?_ (IsS126.ge HI0.out) | refine below_set ?_ GE196.out) | exact HB.out)); rintro e w75 ⟨v200, rfl, ho0, hi, hb, hk⟩; refine ⟨_, rfl, ?_⟩; have n0_ := Aside0.mk (KeepBut.blk hk (g' := gb196) (o := .cells #[.int .i64 0, .int .i64 0, .slice none 0 0] 34 (0, 0)) (qk BK196.out) NB196_0.out (by simp)); have n1_ := Aside0.mk (Kd.R_lower ho0 (keep_size (w := w) (g := g) (row := none) (qh1 HK.out GW196.out))); have n2_ := Aside0.mk (KeepBut.trans (qh1 HK.out GW196.out) hk (.inl rfl)); have n3_ := Aside0.mk (hb); have n4_ := Aside0.mk (hi); clear BK196; clear HK; clear HB; clear HI0; have BK196 := n0_; have HO201 := n1_; have HK := n2_; have HB := n3_; have HI0 := n4_; clear n0_ n1_ n2_ n3_ n4_; (try clear hb); (try clear hb2); (try clear hk); (try clear hi); (try clear ho0)) | ((with_reducible refine gate_dst (N := 3) rfl ?_); refine box_event ?hg (N := 3) ?hd (cs := #[.int .i64 0, .int .i64 0, .slice none 0 0]) (t := 34) ?hr ?_; (case hd => rfl); (case hg => rfl); (case hr => first | (go_simp; done) | (go_simp; rfl)); intro gb204 hg w76 hbox hb; have n0_ := Aside0.mk (Kd.R_below (qr HO201.out) hb); have n1_ := Aside0.mk (IsS126.below (by repeat (first | (with_reducible first | exact HI0.out | apply IsS126.alloc | apply IsS126.drewN | apply IsS126.drew | apply IsS126.set_1 | apply IsS126.set_2 | refine IsS126.far ?_ NB0_196.out _) | exact HI0.out)) hb); have n2_ := Aside0.mk (blk_below (g := gb196) (o := .cells #[.int .i64 0, .int .i64 0, .slice none 0 0] 34 (0, 0)) (qk BK196.out) hb); have n3_ := Aside0.mk (KeepBut.trans (qh1 HK.out GW196.out) (KeepBut.of_below hb g none) (.inl rfl)); have n4_ := Aside0.mk (below_step (qb2 HB.out (IsS126.ge HI0.out) GE196.out) hb); have n5_ := Aside0.mk (hbox); have n6_ := Aside0.mk ((by rw [hg]; exact (keep_size (w := w) (g := g) (row := none) (qh1 HK.out GW196.out)) : w.heap.size ≤ gb204)); have n7_ := Aside0.mk ((Nat.le_trans HW0.out (by rw [hg]; exact (keep_size (w := w) (g := g) (row := none) (qh1 HK.out GW196.out)) : w.heap.size ≤ gb204) : w0.heap.size ≤ gb204)); have n8_ := Aside0.mk ((by rw [hg]; exact Nat.ne_of_lt (blk_lt (g := gb196) (o := .cells #[.int .i64 0, .int .i64 0, .slice none 0 0] 34 (0, 0)) (qk BK196.out)) : gb196 ≠ gb204)); have n9_ := Aside0.mk ((by rw [hg]; exact Nat.ne_of_gt (blk_lt (g := gb196) (o := .cells #[.int .i64 0, .int .i64 0, .slice none 0 0] 34 (0, 0)) (qk BK196.out)) : gb204 ≠ gb196)); have n10_ := Aside0.mk ((by rw [hg]; exact Nat.ne_of_lt (IsS126.lt (show IsS126 w0 _ g s0_0 t202 t203 from by repeat (first | (with_reducible first | exact HI0.out | apply IsS126.alloc | apply IsS126.drewN | apply IsS126.drew | apply IsS126.set_1 | apply IsS126.set_2 | refine IsS126.far ?_ NB0_196.out _) | exact HI0.out))) : g ≠ gb204)); have n11_ := Aside0.mk ((by rw [hg]; exact Nat.ne_of_gt (IsS126.lt (show IsS126 w0 _ g s0_0 t202 t203 from by repeat (first | (with_reducible first | exact HI0.out | apply IsS126.alloc | apply IsS126.drewN | apply IsS126.drew | apply IsS126.set_1 | apply IsS126.set_2 | refine IsS126.far ?_ NB0_196.out _) | exact HI0.out))) : gb204 ≠ g)); clear HO201; clear HI0; clear BK196; clear HK; clear HB; have HO201 := n0_; have HI0 := n1_; have BK196 := n2_; have HK := n3_; have HB := n4_; have BK204 := n5_; have GW204 := n6_; have GE204 := n7_; have NB196_204 := n8_; have NB204_196 := n9_; have NB0_204 := n10_; have NB204_0 := n11_; clear n0_ n1_ n2_ n3_ n4_ n5_ n6_ n7_ n8_ n9_ n10_ n11_; clear hb hbox hg; have hnb77 := NB204_196.out; have hnc77 := NB196_204.out; have hnb78 := NB204_0.out; have hnc78 := NB0_204.out; have hcz79_0 : w76.cell? ⟨gb204, 0, none⟩ = some (.int .i64 0) := (blk_cell BK204.out 0).trans rfl; have hcz79_1 : w76.cell? ⟨gb204, 1, none⟩ = some (.int .i64 0) := (blk_cell BK204.out 1).trans rfl; have hcz79_2 : w76.cell? ⟨gb204, 2, none⟩ = some (.slice none 0 0) := (blk_cell BK204.out 2).trans rfl; have hfz79_0 := blk_frozen BK204.out 0; have hfz79_1 := blk_frozen BK204.out 1; have hfz79_2 := blk_frozen BK204.out 2; obtain ⟨Ao80, co80, eo80⟩ := Kd.R_slice HO201.out; subst eo80) | ((with_reducible refine gate_callee (f := 73) rfl ?_); refine goesL_ (some 7) rfl rfl Try.func73 (by kernel_rfl) rfl #[.pointer (some ⟨g, 0, none⟩), .int .i64 12] rfl qm ?_; (with_reducible refine (spec_l01Below.calls g s0_0 t202 t203 12 t205 t206 t207 w0 _ ?side1 ?side2 A3.out).mono ?_); (case side1 => repeat (first | (with_reducible first | exact HI0.out | apply IsS126.alloc | apply IsS126.drewN | apply IsS126.drew | apply IsS126.set_1 | apply IsS126.set_2 | refine IsS126.far ?_ NB0_196.out _ | refine IsS126.far ?_ NB0_204.out _) | exact HI0.out)); (case side2 => repeat (first | (with_reducible first | exact HB.out | apply below_alloc | apply pw_below_drewN | apply below_drew1 | refine below_set ?_ (IsS126.ge HI0.out) | refine below_set ?_ GE196.out | refine below_set ?_ GE204.out) | exact HB.out)); rintro e w81 ⟨rfl, hi, hb, hk⟩; refine ⟨_, rfl, ?_⟩; have n0_ := Aside0.mk (KeepBut.blk hk (g' := gb196) (o := .cells #[.int .i64 0, .int .i64 0, .slice none 0 0] 34 (0, 0)) (by refine qK ?_; refine blk_far ?_ NB196_204.out _; refine qK ?_; refine blk_far ?_ NB196_204.out _; refine qK ?_; refine blk_far ?_ NB196_204.out _; refine qK ?_; exact BK196.out) NB196_0.out (by simp)); have n1_ := Aside0.mk (Kd.R_mono (Kd.R_keep (IsS126.apart (show IsS126 w0 _ g s0_0 t202 t203 from by repeat (first | (with_reducible first | exact HI0.out | apply IsS126.alloc | apply IsS126.drewN | apply IsS126.drew | apply IsS126.set_1 | apply IsS126.set_2 | refine IsS126.far ?_ NB0_196.out _ | refine IsS126.far ?_ NB0_204.out _) | exact HI0.out)) (by refine qR ?_; exact (Kd.R_mono (Kd.R_far (p := ⟨gb204, 2, none⟩) (Kd.R_far (p := ⟨gb204, 1, none⟩) (Kd.R_far (p := ⟨gb204, 0, none⟩) (Kd.R_types HO201.out BK204.out (by decide)) (fun _ hk => hk.2) (.int .i64 t197)) (fun _ hk => hk.2) (.int .i64 t198)) (fun _ hk => hk.2) (.slice Ao80 t199.length co80)) (fun _ h_ => h_.1))) (by decide)) hk (fun _ h => h.2)) (fun _ h => h.1)); have n2_ := Aside0.mk (KeepBut.blk hk (g' := gb204) (o := .cells #[.int .i64 t197, .int .i64 t198, .slice Ao80 t199.length co80] 34 (0, 0)) (by refine qK ?_; refine blk_put (cs := #[.int .i64 t197, .int .i64 t198, .slice none 0 0]) ?_ 2 _ rfl; refine qK ?_; refine blk_put (cs := #[.int .i64 t197, .int .i64 0, .slice none 0 0]) ?_ 1 _ rfl; refine qK ?_; refine blk_put (cs := #[.int .i64 0, .int .i64 0, .slice none 0 0]) ?_ 0 _ rfl; refine qK ?_; exact BK204.out) NB204_0.out (by simp)); have n3_ := Aside0.mk (KeepBut.trans (qh2 HK.out GW196.out GW204.out) hk (.inl rfl)); have n4_ := Aside0.mk (hb); have n5_ := Aside0.mk (hi); clear BK196; clear HO201; clear BK204; clear HK; clear HB; clear HI0; have BK196 := n0_; have HO201 := n1_; have BK204 := n2_; have HK := n3_; have HB := n4_; have HI0 := n5_; clear n0_ n1_ n2_ n3_ n4_ n5_; (try clear hb); (try clear hb2); (try clear hk); (try clear hi); have hcz82_0 : w81.cell? ⟨gb204, 0, none⟩ = some (.int .i64 t197) := (blk_cell BK204.out 0).trans rfl; have hcz82_1 : w81.cell? ⟨gb204, 1, none⟩ = some (.int .i64 t198) := (blk_cell BK204.out 1).trans rfl; have hcz82_2 : w81.cell? ⟨gb204, 2, none⟩ = some (.slice Ao80 t199.length co80) := (blk_cell BK204.out 2).trans rfl; have hfz82_0 := blk_frozen BK204.out 0; have hfz82_1 := blk_frozen BK204.out 1; have hfz82_2 := blk_frozen BK204.out 2; have hnb83 := NB196_0.out; have hnc83 := NB0_196.out; have hcz84_0 : w81.cell? ⟨gb196, 0, none⟩ = some (.int .i64 0) := (blk_cell BK196.out 0).trans rfl; have hcz84_1 : w81.cell? ⟨gb196, 1, none⟩ = some (.int .i64 0) := (blk_cell BK196.out 1).trans rfl; have hcz84_2 : w81.cell? ⟨gb196, 2, none⟩ = some (.slice none 0 0) := (blk_cell BK196.out 2).trans rfl; have hfz84_0 := blk_frozen BK196.out 0; have hfz84_1 := blk_frozen BK196.out 1; have hfz84_2 := blk_frozen BK196.out 2))
     refine bodyPost_ret (results_cell_row rfl _ _ gb196 34 #[.int .i64 t197, .int .i64 t198, .slice Ao80 t199.length co80] (0, 0) _ rfl (by refine qK ?_; refine blk_put (cs := #[.int .i64 t197, .int .i64 t198, .slice none 0 0]) ?_ 2 _ rfl; refine qK ?_; refine blk_put (cs := #[.int .i64 t197, .int .i64 0, .slice none 0 0]) ?_ 1 _ rfl; refine qK ?_; refine blk_put (cs := #[.int .i64 0, .int .i64 0, .slice none 0 0]) ?_ 0 _ rfl; refine qK ?_; exact BK196.out) Try.underlying34 rfl (by kernel_rfl)) rfl ?_
     exact ⟨_, qe, Kd.Q_of_R (by refine qR ?_; exact Kd.R_mono (Kd.R_far (p := ⟨gb196, 2, none⟩) (Kd.R_far (p := ⟨gb196, 1, none⟩) (Kd.R_far (p := ⟨gb196, 0, none⟩) (Kd.R_types HO201.out BK196.out (by decide)) (fun _ hk => hk.2) (.int .i64 t197)) (fun _ hk => hk.2) (.int .i64 t198)) (fun _ hk => hk.2) (.slice Ao80 t199.length co80)) (fun _ hk => trivial)), by repeat (first | (with_reducible first | exact HI0.out | apply IsS126.alloc | apply IsS126.drewN | apply IsS126.drew | apply IsS126.set_1 | apply IsS126.set_2 | refine IsS126.far ?_ NB0_196.out _ | refine IsS126.far ?_ NB0_204.out _) | exact HI0.out), qb3 HB.out (IsS126.ge HI0.out) GE196.out GE204.out, qh2 HK.out GW196.out GW204.out⟩

end Go.Proofs.Ytfkjjehkngmgaaa.PFnInodes
