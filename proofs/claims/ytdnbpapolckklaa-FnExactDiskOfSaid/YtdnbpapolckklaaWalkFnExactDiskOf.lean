/- FnExactDiskOf: the law's walk, by hand. No condition. -/
import Derived.Test.YtdnbpapolckklaaMarksFnExactDiskOf
namespace Go.Proofs.Ytdnbpapolckklaa.PFnExactDiskOf
open Go Go.RowKit Go.Proofs.YtdnbpapolckklaaW.PrintWords Go.Proofs.YtdnbpapolckklaaW.PrintLast Go.Proofs.YtdnbpapolckklaaW.PrintMore
set_option linter.unusedVariables false
set_option linter.unusedSimpArgs false
set_option maxHeartbeats 2000000 in
set_option maxRecDepth 100000 in
theorem laws_FnExactDiskOf.walk_neg (k : Nat) (A0 : Option Addr) (c0 : Nat) (l0 : List ByteArray) (left : Int) (w : World) (hA : RdD w A0 c0 l0) (hz : laws_szDevice.f k l0 1048576 = some left) (hz0 : left < 0) :
    Calls Try.prog 4 #[.agg #[.slice A0 l0.length c0]] w fun e w' => e = .returned (.bool true) ∧ Below w.heap.size w w' := by
  have HA := Aside0.mk hA
  have HZ := Aside0.mk hz
  have q1 : decide (left < 0) = true := decide_eq_true hz0
  clear hA hz hz0
  go_enter Try.func4, Try.ntmps4
  go_wp2_with (go_at_call 9)
  have hbox := blk_new w (Obj.cells #[Value.slice A0 l0.length c0] 46)
  have hbb := below_alloc (Below.refl _ w) (Obj.cells #[Value.slice A0 l0.length c0] 46)
  generalize w.alloc (Obj.cells #[Value.slice A0 l0.length c0] 46) = wP at hbox hbb ⊢
  have BKP := Aside0.mk hbox
  have BP := Aside0.mk hbb
  clear hbox hbb
  refine (szDev_calls k (RdD.below HA.out BP.out) HZ.out).mono ?_
  rintro e w1 ⟨rfl, hb1⟩
  have B1 := Aside0.mk hb1
  clear hb1
  go_wp2
  go_ret
  exact ⟨rfl, (below_step BP.out B1.out)⟩
set_option maxHeartbeats 2000000 in
set_option maxRecDepth 100000 in
theorem laws_FnExactDiskOf.walk_ (k : Nat) (A0 : Option Addr) (c0 : Nat) (l0 : List ByteArray) (left : Int) (t : List ByteArray) (a b : List Bool) (I : List S105) (B : List S59) (ok : Bool) (d : Int) (ts : List ByteArray) (m1 m2 m : Int) (r0 r1 : List Bool) (r2 : List S105) (r3 : List S59) (w : World)
    (hA : RdD w A0 c0 l0) (hz : laws_szDevice.f k l0 1048576 = some left) (hz0 : 0 ≤ left) (ht : laws_toDevice.f k l0 = some t) (hs : spec_DiskOf.f k t = some (a, b, I, B, ok)) (hi : impl_DiskOf.f k t = some (a, b, I, B, ok)) (he : laws_eqDisk.f k a b I B a b I B = some true) (hd : laws_eqDevice.f k t t = some true)
    (hk : laws_markDevice.f k t 1 = some (d, ts)) (hd0 : 0 ≤ d) (h1 : laws_markBits.f k a b 1 = some (m1, r0, r1)) (h2 : laws_markInodeS.f k I m1 = some (m2, r2)) (h3 : laws_markBlockS.f k B m2 = some (m, r3)) (hm : 0 ≤ m) (hh : laws_heldDisk.f k r0 r1 r2 r3 1 = some m) (z0 : r0.length = a.length) (z1 : r1.length = b.length) (z2 : r2.length = I.length) (z3 : r3.length = B.length) :
    Calls Try.prog 4 #[.agg #[.slice A0 l0.length c0]] w fun e w' => e = .returned (.bool true) ∧ Below w.heap.size w w' := by
  have HA := Aside0.mk hA
  have HZ := Aside0.mk hz
  have HT := Aside0.mk ht
  have HS := Aside0.mk hs
  have HI := Aside0.mk hi
  have HE := Aside0.mk he
  have HD := Aside0.mk hd
  have HK := Aside0.mk hk
  have H1 := Aside0.mk h1
  have H2 := Aside0.mk h2
  have H3 := Aside0.mk h3
  have HH := Aside0.mk hh
  have Z0 := Aside0.mk z0
  have Z1 := Aside0.mk z1
  have Z2 := Aside0.mk z2
  have Z3 := Aside0.mk z3
  have q1 : decide (left < 0) = false := decide_eq_false (by omega)
  have q2 : decide (m < 0) = false := decide_eq_false (by omega)
  have q3 : decide (d < 0) = false := decide_eq_false (by omega)
  clear hA hz hz0 ht hs hi he hd hk hd0 h1 h2 h3 hm hh z0 z1 z2 z3
  go_enter Try.func4, Try.ntmps4
  go_wp2_with (go_at_call 9)
  have hbox := blk_new w (Obj.cells #[Value.slice A0 l0.length c0] 46)
  have hbb := below_alloc (Below.refl _ w) (Obj.cells #[Value.slice A0 l0.length c0] 46)
  generalize w.alloc (Obj.cells #[Value.slice A0 l0.length c0] 46) = wP at hbox hbb ⊢
  have BKP := Aside0.mk hbox
  have BP := Aside0.mk hbb
  clear hbox hbb
  refine (szDev_calls k (RdD.below HA.out BP.out) HZ.out).mono ?_
  rintro e w1 ⟨rfl, hb1⟩
  have B1 := Aside0.mk hb1
  clear hb1
  have hP := (blk_below BKP.out B1.out)
  have lP := blk_lt hP
  have yP0 := (blk_cell hP 0).trans rfl
  clear hP
  go_wp2_with (go_at_call 9)
  clear lP yP0
  refine (toDev_calls k (RdD.below (RdD.below HA.out BP.out) B1.out) HT.out).mono ?_
  rintro e w2 ⟨D, dd, rfl, hc2, -, hb2⟩
  have B2 := Aside0.mk hb2
  clear hb2
  have CD := Aside0.mk hc2
  clear hc2
  go_wp2_with (go_at_call 9)
  refine (specDisk_calls k CD.out HS.out).mono ?_
  rintro e w3 ⟨W0, e0, W1, e1, W2, e2, W3, e3, rfl, hc3, -, -, -, -, hb3⟩
  have B3 := Aside0.mk hb3
  clear hb3
  have CW := Aside0.mk hc3
  clear hc3
  have hP := (blk_below (blk_below (blk_below BKP.out B1.out) B2.out) B3.out)
  have lP := blk_lt hP
  have yP0 := (blk_cell hP 0).trans rfl
  clear hP
  go_wp2_with (go_at_call 9)
  clear lP yP0
  have hbox := blk_new w3 (Obj.cells #[Value.slice W0 a.length e0, Value.slice W1 b.length e1, Value.slice W2 I.length e2, Value.slice W3 B.length e3] 39)
  have hbb := below_alloc (Below.refl _ w3) (Obj.cells #[Value.slice W0 a.length e0, Value.slice W1 b.length e1, Value.slice W2 I.length e2, Value.slice W3 B.length e3] 39)
  generalize w3.alloc (Obj.cells #[Value.slice W0 a.length e0, Value.slice W1 b.length e1, Value.slice W2 I.length e2, Value.slice W3 B.length e3] 39) = wA at hbox hbb ⊢
  have BKA := Aside0.mk hbox
  have BA := Aside0.mk hbb
  clear hbox hbb
  refine (toDev_calls k (RdD.below (RdD.below (RdD.below (RdD.below (RdD.below HA.out BP.out) B1.out) B2.out) B3.out) BA.out) HT.out).mono ?_
  rintro e w4 ⟨E, ee, rfl, hc4, hx4, hb4⟩
  have B4 := Aside0.mk hb4
  clear hb4
  have CE := Aside0.mk hc4
  clear hc4
  have RX := Aside0.mk hx4
  clear hx4
  go_wp2_with (go_at_call 9)
  have hbox := blk_new w4 (Obj.cells #[Value.slice E t.length ee] 32)
  have hbb := below_alloc (Below.refl _ w4) (Obj.cells #[Value.slice E t.length ee] 32)
  generalize w4.alloc (Obj.cells #[Value.slice E t.length ee] 32) = wX at hbox hbb ⊢
  have BKX := Aside0.mk hbox
  have BX := Aside0.mk hbb
  clear hbox hbb
  refine (implDisk_calls k (RdD.below CE.out BX.out) HI.out).mono ?_
  rintro e w5 ⟨G0, g0, G1, g1, G2, g2, G3, g3, rfl, hc5, hv0, hv1, hv2, hv3, hb5⟩
  have B5 := Aside0.mk hb5
  clear hb5
  have CG := Aside0.mk hc5
  clear hc5
  have V0 := Aside0.mk hv0
  clear hv0
  have V1 := Aside0.mk hv1
  clear hv1
  have V2 := Aside0.mk hv2
  clear hv2
  have V3 := Aside0.mk hv3
  clear hv3
  have hA := (blk_below (blk_below (blk_below BKA.out B4.out) BX.out) B5.out)
  have lA := blk_lt hA
  have yA0 := (blk_cell hA 0).trans rfl
  have yA1 := (blk_cell hA 1).trans rfl
  have yA2 := (blk_cell hA 2).trans rfl
  have yA3 := (blk_cell hA 3).trans rfl
  clear hA
  go_wp2_with (go_at_call 9)
  clear lA yA0 yA1 yA2 yA3
  have hbox := blk_new w5 (Obj.cells #[Value.slice G0 a.length g0, Value.slice G1 b.length g1, Value.slice G2 I.length g2, Value.slice G3 B.length g3] 39)
  have hbb := below_alloc (Below.refl _ w5) (Obj.cells #[Value.slice G0 a.length g0, Value.slice G1 b.length g1, Value.slice G2 I.length g2, Value.slice G3 B.length g3] 39)
  generalize w5.alloc (Obj.cells #[Value.slice G0 a.length g0, Value.slice G1 b.length g1, Value.slice G2 I.length g2, Value.slice G3 B.length g3] 39) = wG at hbox hbb ⊢
  have BKG := Aside0.mk hbox
  have BG := Aside0.mk hbb
  clear hbox hbb
  refine (eqDisk_calls k (Rd4.below CG.out BG.out) (Rd4.below (Rd4.below (Rd4.below (Rd4.below (Rd4.below CW.out BA.out) B4.out) BX.out) B5.out) BG.out) HE.out).mono ?_
  rintro e w6 ⟨rfl, hb6⟩
  have B6 := Aside0.mk hb6
  clear hb6
  have hP6 := (blk_below (blk_below (blk_below (blk_below (blk_below (blk_below (blk_below (blk_below (blk_below BKP.out B1.out) B2.out) B3.out) BA.out) B4.out) BX.out) B5.out) BG.out) B6.out)
  have hX6 := (blk_below (blk_below (blk_below BKX.out B5.out) BG.out) B6.out)
  go_wp2
  refine start_ (n := 5) (S := fun w' => w'.cell? ⟨w4.heap.size, 0, none⟩ = some (.slice E t.length ee) ∧ w'.cell? ⟨w.heap.size, 0, none⟩ = some (.slice A0 l0.length c0)) (ds := []) #[false, false, false, false, false] (by kernel_rfl) rfl rfl ⟨(blk_cell (blk_drew hX6) 0).trans rfl, (blk_cell (blk_drew hP6) 0).trans rfl⟩ (fun hHeld => ?_)
  clear hP6 hX6
  have hD := below_drew (Below.refl w6.heap.size w6)
  generalize w6.drew = wD at hD hHeld ⊢
  have BD := Aside0.mk hD
  clear hD
  refine take_ (i := 0) (N := some 41) (v := ?_) (a' := ?_) #[true, false, false, false, false] rfl rfl (by kernel_rfl) (fun _ _ _ h => h) (Or.inl ⟨by rfl, ?_⟩) hHeld ?_ ?_
  rotate_left
  · rintro w' ⟨s0, s1⟩
    go_simp
    with_reducible rfl
  rotate_left
  · refine qp ?_
    rfl
  refine take_ (i := 1) (N := some 42) (v := ?_) (a' := ?_) #[true, true, false, false, false] rfl rfl (by kernel_rfl) (fun _ _ _ h => h) (Or.inl ⟨by rfl, ?_⟩) hHeld ?_ ?_
  rotate_left
  · rintro w' ⟨s0, s1⟩
    go_simp
    with_reducible rfl
  rotate_left
  · refine qp ?_
    rfl
  refine one_ (i := 2) (N := some 43) #[true, true, true, false, false] rfl rfl (by kernel_rfl) (by decide) (fun K hK => ?_)
  refine goes_ Try.func25 (by kernel_rfl) rfl #[.agg #[.slice A0 l0.length c0]] (by rfl) rfl rfl qm ?_
  refine (toDev_calls k (RdD.below (RdD.below (RdD.below (RdD.below (RdD.below (RdD.below (RdD.below (RdD.below (RdD.below (RdD.below (RdD.below HA.out BP.out) B1.out) B2.out) B3.out) BA.out) B4.out) BX.out) B5.out) BG.out) B6.out) BD.out) HT.out).mono ?_
  rintro e w7 ⟨U, ue, rfl, hc7, -, hb7⟩
  have B7 := Aside0.mk hb7
  clear hb7
  have CU := Aside0.mk hc7
  clear hc7
  refine ⟨_, rfl, ?_⟩
  have hP := (blk_below (blk_below (blk_below (blk_below (blk_below (blk_below (blk_below (blk_below (blk_below (blk_below (blk_below BKP.out B1.out) B2.out) B3.out) BA.out) B4.out) BX.out) B5.out) BG.out) B6.out) BD.out) B7.out)
  have hX := (blk_below (blk_below (blk_below (blk_below (blk_below BKX.out B5.out) BG.out) B6.out) BD.out) B7.out)
  refine hK.out _ _ ⟨(blk_cell hX 0).trans rfl, (blk_cell hP 0).trans rfl⟩ (fun hHeld => ?_)
  clear hK K hP hX
  refine norm_ (a' := ?_) ?_ ?_
  rotate_left
  · show Act.put _ (some 43) _ = _
    refine qp ?_
    rfl
  refine one_ (i := 3) (N := some 44) #[true, true, true, true, false] rfl rfl (by kernel_rfl) (by decide) (fun K hK => ?_)
  refine goes_ Try.func18 (by kernel_rfl) rfl #[.agg #[.slice E t.length ee], .agg #[.slice U t.length ue]] (by rfl) rfl rfl qm ?_
  refine (eqDev_calls k (RdD.below (RdD.below (RdD.below (RdD.below (RdD.below (RdD.below CE.out BX.out) B5.out) BG.out) B6.out) BD.out) B7.out) CU.out HD.out).mono ?_
  rintro e w8 ⟨rfl, hb8⟩
  have B8 := Aside0.mk hb8
  clear hb8
  refine ⟨_, rfl, ?_⟩
  have hP := (blk_below (blk_below (blk_below (blk_below (blk_below (blk_below (blk_below (blk_below (blk_below (blk_below (blk_below (blk_below BKP.out B1.out) B2.out) B3.out) BA.out) B4.out) BX.out) B5.out) BG.out) B6.out) BD.out) B7.out) B8.out)
  have hX := (blk_below (blk_below (blk_below (blk_below (blk_below (blk_below BKX.out B5.out) BG.out) B6.out) BD.out) B7.out) B8.out)
  refine hK.out _ _ ⟨(blk_cell hX 0).trans rfl, (blk_cell hP 0).trans rfl⟩ (fun hHeld => ?_)
  clear hK K hP hX
  refine norm_ (a' := ?_) ?_ ?_
  rotate_left
  · show Act.put _ (some 44) _ = _
    refine qp ?_
    rfl
  refine pure_ (i := 4) (N := some 45) (v := ?_) (a' := ?_) #[true, true, true, true, true] rfl rfl (by kernel_rfl) (fun _ _ _ h => h) (Or.inl ⟨by rfl, ?_⟩) ?_ ?_
  rotate_left
  · intro w'
    go_simp
    with_reducible rfl
  rotate_left
  · refine qp ?_
    rfl
  refine done_ (by kernel_rfl) ?_
  have hX := (blk_below (blk_below (blk_below (blk_below (blk_below (blk_below BKX.out B5.out) BG.out) B6.out) BD.out) B7.out) B8.out)
  have lX := blk_lt hX
  have yX0 := (blk_cell hX 0).trans rfl
  clear hX
  go_wp2_with (go_at_call 9)
  clear lX yX0
  have RX8 := Aside0.mk (Kd.R_tight rfl ((Kd.R_below (Kd.R_below (Kd.R_below (Kd.R_below (Kd.R_below (Kd.R_below (Kd.R_below RX.out BX.out) B5.out) BG.out) B6.out) BD.out) B7.out) B8.out)))
  refine (markDev_calls k (below_step (below_step (below_step (below_step (below_step (below_step (below_step B4.out BX.out) B5.out) BG.out) B6.out) BD.out) B7.out) B8.out) RX8.out HK.out).mono ?_
  rintro e w9 ⟨rfl, -, hb9, hk9⟩
  have B9 := Aside0.mk hb9
  clear hb9
  have BKG9 := Aside0.mk (blk_kept (blk_below (blk_below (blk_below (blk_below BKG.out B6.out) BD.out) B7.out) B8.out) hk9 (fun e_ => by
    obtain ⟨cs_, q_⟩ := Kd.R_typed RX8.out _ e_.symm
    exact blk_ne (blk_below (blk_below (blk_below (blk_below BKG.out B6.out) BD.out) B7.out) B8.out) q_ (by decide) rfl))
  replace V0 := Aside0.mk (Kd.R_lower (Kd.R_mono (Kd.R_kept (Kd.R_apart' ((Kd.R_below (Kd.R_below (Kd.R_below (Kd.R_below (Kd.R_below V0.out BG.out) B6.out) BD.out) B7.out) B8.out)) (Kd.R_typed RX8.out) (by decide)) hk9 (fun k_ hk hs => hk.2 hs)) (fun _ hk => hk.1)) (below_size (below_step B4.out BX.out)))
  replace V1 := Aside0.mk (Kd.R_lower (Kd.R_mono (Kd.R_kept (Kd.R_apart' ((Kd.R_below (Kd.R_below (Kd.R_below (Kd.R_below (Kd.R_below V1.out BG.out) B6.out) BD.out) B7.out) B8.out)) (Kd.R_typed RX8.out) (by decide)) hk9 (fun k_ hk hs => hk.2 hs)) (fun _ hk => hk.1)) (below_size (below_step B4.out BX.out)))
  replace V2 := Aside0.mk (Kd.S_lower (Kd.S_mono (Kd.S_kept (Kd.S_apart' ((Kd.S_below (Kd.S_below (Kd.S_below (Kd.S_below (Kd.S_below V2.out BG.out) B6.out) BD.out) B7.out) B8.out)) (Kd.R_typed RX8.out) (by decide)) hk9 (fun k_ hk hs => hk.2 hs)) (fun _ hk => hk.1)) (below_size (below_step B4.out BX.out)))
  replace V3 := Aside0.mk (Kd.S_lower (Kd.S_mono (Kd.S_kept (Kd.S_apart' ((Kd.S_below (Kd.S_below (Kd.S_below (Kd.S_below (Kd.S_below V3.out BG.out) B6.out) BD.out) B7.out) B8.out)) (Kd.R_typed RX8.out) (by decide)) hk9 (fun k_ hk hs => hk.2 hs)) (fun _ hk => hk.1)) (below_size (below_step B4.out BX.out)))
  have CG9 := Aside0.mk (show Rd4 w9 G0 g0 a G1 g1 b G2 g2 I G3 g3 B from ⟨(Kd.R_reads' V0.out).2.symm, (Kd.R_reads' V1.out).2.symm, (Kd.S_reads' V2.out).2.symm, (Kd.S_reads' V3.out).2.symm⟩)
  clear hk9
  have hG := BKG9.out
  have lG := blk_lt hG
  have yG0 := (blk_cell hG 0).trans rfl
  have yG1 := (blk_cell hG 1).trans rfl
  have yG2 := (blk_cell hG 2).trans rfl
  have yG3 := (blk_cell hG 3).trans rfl
  clear hG
  have hA := (blk_below BKA.out B9.out)
  have lA := blk_lt hA
  have yA0 := (blk_cell hA 0).trans rfl
  have yA1 := (blk_cell hA 1).trans rfl
  have yA2 := (blk_cell hA 2).trans rfl
  have yA3 := (blk_cell hA 3).trans rfl
  clear hA
  go_wp2_with (go_at_call 9)
  clear lG yG0 yG1 yG2 yG3 lA yA0 yA1 yA2 yA3
  refine (eqDisk_calls k CG9.out (Rd4.below (Rd4.below CW.out BA.out) B9.out) HE.out).mono ?_
  rintro e w10 ⟨rfl, hb10⟩
  have B10 := Aside0.mk hb10
  clear hb10
  have hG := (blk_below BKG9.out B10.out)
  have lG := blk_lt hG
  have yG0 := (blk_cell hG 0).trans rfl
  have yG1 := (blk_cell hG 1).trans rfl
  have yG2 := (blk_cell hG 2).trans rfl
  have yG3 := (blk_cell hG 3).trans rfl
  clear hG
  go_wp2_with (go_at_call 9)
  clear lG yG0 yG1 yG2 yG3
  refine (laws_markDisk.calls k _ _ _ _ a b I B 1 m1 m2 m r0 r1 r2 r3 wA _ (below_step B9.out B10.out) (Kd.R_below V0.out B10.out) (Kd.R_below V1.out B10.out) (Kd.S_below V2.out B10.out) (Kd.S_below V3.out B10.out) H1.out H2.out H3.out).mono ?_
  rintro e w11 ⟨rfl, hr0, hr1, hr2, hr3, hb11, hk11⟩
  have B11 := Aside0.mk hb11
  clear hb11
  have BKG11 := Aside0.mk (hk11 _ _ _ (blk_below BKG9.out B10.out) (by decide))
  have CR := Aside0.mk (show Rd4 w11 G0 g0 r0 G1 g1 r1 G2 g2 r2 G3 g3 r3 from by
    have y0 := Kd.R_reads' hr0
    have y1 := Kd.R_reads' hr1
    have y2 := Kd.S_reads' hr2
    have y3 := Kd.S_reads' hr3
    rw [y0.1] at y0
    rw [y1.1] at y1
    rw [y2.1] at y2
    rw [y3.1] at y3
    exact ⟨y0.2.symm, y1.2.symm, y2.2.symm, y3.2.symm⟩)
  clear hr0 hr1 hr2 hr3 hk11
  have HDk := Aside0.mk (fun (W : World) (hR : Rd4 W G0 g0 r0 G1 g1 r1 G2 g2 r2 G3 g3 r3) => heldDisk_calls k hR HH.out)
  rw [Z0.out, Z1.out, Z2.out, Z3.out] at HDk
  have hG := BKG11.out
  have lG := blk_lt hG
  have yG0 := (blk_cell hG 0).trans rfl
  have yG1 := (blk_cell hG 1).trans rfl
  have yG2 := (blk_cell hG 2).trans rfl
  have yG3 := (blk_cell hG 3).trans rfl
  clear hG
  go_wp2_with (go_at_call 9)
  clear lG yG0 yG1 yG2 yG3
  refine (HDk.out _ CR.out).mono ?_
  rintro e w12 ⟨rfl, hb12⟩
  have B12 := Aside0.mk hb12
  clear hb12
  have hP := (blk_below (blk_below (blk_below (blk_below (blk_below (blk_below BKP.out B1.out) B2.out) B3.out) BA.out) B11.out) B12.out)
  have lP := blk_lt hP
  have yP0 := (blk_cell hP 0).trans rfl
  clear hP
  go_wp2_with (go_at_call 9)
  clear lP yP0
  refine (toDev_calls k (RdD.below (RdD.below (RdD.below (RdD.below (RdD.below (RdD.below (RdD.below HA.out BP.out) B1.out) B2.out) B3.out) BA.out) B11.out) B12.out) HT.out).mono ?_
  rintro e w13 ⟨J, je, rfl, hc13, -, hb13⟩
  have B13 := Aside0.mk hb13
  clear hb13
  have CJ := Aside0.mk hc13
  clear hc13
  go_wp2_with (go_at_call 9)
  refine (implDisk_calls k CJ.out HI.out).mono ?_
  rintro e w14 ⟨K0, kc0, K1, kc1, K2, kc2, K3, kc3, rfl, hc14, -, -, -, -, hb14⟩
  have B14 := Aside0.mk hb14
  clear hb14
  have CK := Aside0.mk hc14
  clear hc14
  have hA := (blk_below (blk_below (blk_below (blk_below BKA.out B11.out) B12.out) B13.out) B14.out)
  have lA := blk_lt hA
  have yA0 := (blk_cell hA 0).trans rfl
  have yA1 := (blk_cell hA 1).trans rfl
  have yA2 := (blk_cell hA 2).trans rfl
  have yA3 := (blk_cell hA 3).trans rfl
  clear hA
  go_wp2_with (go_at_call 9)
  clear lA yA0 yA1 yA2 yA3
  have hbox := blk_new w14 (Obj.cells #[Value.slice K0 a.length kc0, Value.slice K1 b.length kc1, Value.slice K2 I.length kc2, Value.slice K3 B.length kc3] 39)
  have hbb := below_alloc (Below.refl _ w14) (Obj.cells #[Value.slice K0 a.length kc0, Value.slice K1 b.length kc1, Value.slice K2 I.length kc2, Value.slice K3 B.length kc3] 39)
  generalize w14.alloc (Obj.cells #[Value.slice K0 a.length kc0, Value.slice K1 b.length kc1, Value.slice K2 I.length kc2, Value.slice K3 B.length kc3] 39) = wH at hbox hbb ⊢
  have BKH := Aside0.mk hbox
  have BH := Aside0.mk hbb
  clear hbox hbb
  refine (eqDisk_calls k (Rd4.below CK.out BH.out) (Rd4.below (Rd4.below (Rd4.below (Rd4.below (Rd4.below (Rd4.below CW.out BA.out) B11.out) B12.out) B13.out) B14.out) BH.out) HE.out).mono ?_
  rintro e w15 ⟨rfl, hb15⟩
  have B15 := Aside0.mk hb15
  clear hb15
  have hG := (blk_below (blk_below (blk_below (blk_below (blk_below BKG11.out B12.out) B13.out) B14.out) BH.out) B15.out)
  have lG := blk_lt hG
  have yG0 := (blk_cell hG 0).trans rfl
  have yG1 := (blk_cell hG 1).trans rfl
  have yG2 := (blk_cell hG 2).trans rfl
  have yG3 := (blk_cell hG 3).trans rfl
  clear hG
  go_wp2_with (go_at_call 9)
  clear lG yG0 yG1 yG2 yG3
  refine (HDk.out _ (Rd4.below (Rd4.below (Rd4.below (Rd4.below (Rd4.below CR.out B12.out) B13.out) B14.out) BH.out) B15.out)).mono ?_
  rintro e w16 ⟨rfl, hb16⟩
  have B16 := Aside0.mk hb16
  clear hb16
  go_wp2
  go_ret
  exact ⟨rfl, (below_step (below_step (below_step (below_step (below_step (below_step (below_step (below_step (below_step (below_step (below_step BP.out B1.out) B2.out) B3.out) BA.out) B11.out) B12.out) B13.out) B14.out) BH.out) B15.out) B16.out)⟩
end Go.Proofs.Ytdnbpapolckklaa.PFnExactDiskOf
