/- FnExactDeviceOf: the law's walk, by hand. No condition. -/
import Derived.Test.YtdnbpapolckklaaMarksFnExactDeviceOf
namespace Go.Proofs.Ytdnbpapolckklaa.PFnExactDeviceOf
open Go Go.RowKit Go.Proofs.YtdnbpapolckklaaW.PrintWords Go.Proofs.YtdnbpapolckklaaW.PrintLast Go.Proofs.YtdnbpapolckklaaW.PrintMore
set_option linter.unusedVariables false
set_option linter.unusedSimpArgs false
set_option maxHeartbeats 2000000 in
set_option maxRecDepth 100000 in
theorem laws_FnExactDeviceOf.walk_neg (k : Nat) (A0 : Option Addr) (c0 : Nat) (l0 : List Bool) (A1 : Option Addr) (c1 : Nat) (l1 : List Bool) (A2 : Option Addr) (c2 : Nat) (l2 : List S142) (A3 : Option Addr) (c3 : Nat) (l3 : List S54) (left : Int) (w : World) (hA : RdL w A0 c0 l0 A1 c1 l1 A2 c2 l2 A3 c3 l3) (hz : laws_szDisk.f k l0 l1 l2 l3 1048576 = some left) (hz0 : left < 0) :
    Calls Try.prog 3 #[.agg #[.slice A0 l0.length c0, .slice A1 l1.length c1, .slice A2 l2.length c2, .slice A3 l3.length c3]] w fun e w' => e = .returned (.bool true) ∧ Below w.heap.size w w' := by
  have HA := Aside0.mk hA
  have HZ := Aside0.mk hz
  have q1 : decide (left < 0) = true := decide_eq_true hz0
  clear hA hz hz0
  go_enter Try.func3, Try.ntmps3
  go_wp2_with (go_at_call 9)
  have hbox := blk_new w (Obj.cells #[Value.slice A0 l0.length c0, Value.slice A1 l1.length c1, Value.slice A2 l2.length c2, Value.slice A3 l3.length c3] 28)
  have hbb := below_alloc (Below.refl _ w) (Obj.cells #[Value.slice A0 l0.length c0, Value.slice A1 l1.length c1, Value.slice A2 l2.length c2, Value.slice A3 l3.length c3] 28)
  generalize w.alloc (Obj.cells #[Value.slice A0 l0.length c0, Value.slice A1 l1.length c1, Value.slice A2 l2.length c2, Value.slice A3 l3.length c3] 28) = wP at hbox hbb ⊢
  have BKP := Aside0.mk hbox
  have BP := Aside0.mk hbb
  clear hbox hbb
  refine (szDisk_calls k (RdL.below HA.out BP.out) HZ.out).mono ?_
  rintro e w1 ⟨rfl, hb1⟩
  have B1 := Aside0.mk hb1
  clear hb1
  go_wp2
  go_ret
  exact ⟨rfl, (below_step BP.out B1.out)⟩
set_option maxHeartbeats 2000000 in
set_option maxRecDepth 100000 in
theorem laws_FnExactDeviceOf.walk_ (k : Nat) (A0 : Option Addr) (c0 : Nat) (l0 : List Bool) (A1 : Option Addr) (c1 : Nat) (l1 : List Bool) (A2 : Option Addr) (c2 : Nat) (l2 : List S142) (A3 : Option Addr) (c3 : Nat) (l3 : List S54) (left : Int) (t0 t1 : List Bool) (t2 : List S105) (t3 : List S59) (ws : List ByteArray) (b1 : Bool) (m1 m2 m : Int) (r0 r1 : List Bool) (r2 : List S105) (r3 : List S59) (d : Int) (rs : List ByteArray) (w : World)
    (hA : RdL w A0 c0 l0 A1 c1 l1 A2 c2 l2 A3 c3 l3) (hz : laws_szDisk.f k l0 l1 l2 l3 1048576 = some left) (hz0 : 0 ≤ left) (ht : laws_toDisk.f k l0 l1 l2 l3 = some (t0, t1, t2, t3))
    (hs : spec_DeviceOf.f k t0 t1 t2 t3 = some (ws, b1)) (hi : impl_DeviceOf.f k t0 t1 t2 t3 = some (ws, b1)) (he : laws_eqDevice.f k ws ws = some true) (hd : laws_eqDisk.f k t0 t1 t2 t3 t0 t1 t2 t3 = some true)
    (h1 : laws_markBits.f k t0 t1 1 = some (m1, r0, r1)) (h2 : laws_markInodeS.f k t2 m1 = some (m2, r2)) (h3 : laws_markBlockS.f k t3 m2 = some (m, r3)) (hm : 0 ≤ m)
    (hk : laws_markDevice.f k ws 1 = some (d, rs)) (hl : rs.length = ws.length) (hh : laws_heldDevice.f k rs 1 = some d) (hd0 : 0 ≤ d) :
    Calls Try.prog 3 #[.agg #[.slice A0 l0.length c0, .slice A1 l1.length c1, .slice A2 l2.length c2, .slice A3 l3.length c3]] w fun e w' => e = .returned (.bool true) ∧ Below w.heap.size w w' := by
  have HA := Aside0.mk hA
  have HZ := Aside0.mk hz
  have HT := Aside0.mk ht
  have HS := Aside0.mk hs
  have HI := Aside0.mk hi
  have HE := Aside0.mk he
  have HD := Aside0.mk hd
  have H1 := Aside0.mk h1
  have H2 := Aside0.mk h2
  have H3 := Aside0.mk h3
  have HK := Aside0.mk hk
  have HL := Aside0.mk hl
  have HH := Aside0.mk hh
  have q1 : decide (left < 0) = false := decide_eq_false (by omega)
  have q2 : decide (m < 0) = false := decide_eq_false (by omega)
  have q3 : decide (d < 0) = false := decide_eq_false (by omega)
  clear hA hz hz0 ht hs hi he hd h1 h2 h3 hm hk hl hh hd0
  go_enter Try.func3, Try.ntmps3
  go_wp2_with (go_at_call 9)
  have hbox := blk_new w (Obj.cells #[Value.slice A0 l0.length c0, Value.slice A1 l1.length c1, Value.slice A2 l2.length c2, Value.slice A3 l3.length c3] 28)
  have hbb := below_alloc (Below.refl _ w) (Obj.cells #[Value.slice A0 l0.length c0, Value.slice A1 l1.length c1, Value.slice A2 l2.length c2, Value.slice A3 l3.length c3] 28)
  generalize w.alloc (Obj.cells #[Value.slice A0 l0.length c0, Value.slice A1 l1.length c1, Value.slice A2 l2.length c2, Value.slice A3 l3.length c3] 28) = wP at hbox hbb ⊢
  have BKP := Aside0.mk hbox
  have BP := Aside0.mk hbb
  clear hbox hbb
  refine (szDisk_calls k (RdL.below HA.out BP.out) HZ.out).mono ?_
  rintro e w1 ⟨rfl, hb1⟩
  have B1 := Aside0.mk hb1
  clear hb1
  have hP := (blk_below BKP.out B1.out)
  have lP := blk_lt hP
  have yP0 := (blk_cell hP 0).trans rfl
  have yP1 := (blk_cell hP 1).trans rfl
  have yP2 := (blk_cell hP 2).trans rfl
  have yP3 := (blk_cell hP 3).trans rfl
  clear hP
  go_wp2_with (go_at_call 9)
  clear lP yP0 yP1 yP2 yP3
  refine (toDisk_calls k (RdL.below (RdL.below HA.out BP.out) B1.out) HT.out).mono ?_
  rintro e w2 ⟨D0, d0, D1, d1, D2, d2, D3, d3, rfl, hc2, -, -, -, -, hb2⟩
  have B2 := Aside0.mk hb2
  clear hb2
  have CD := Aside0.mk hc2
  clear hc2
  go_wp2_with (go_at_call 9)
  refine (specDev_calls k CD.out HS.out).mono ?_
  rintro e w3 ⟨A, c, rfl, ha3, hb3⟩
  have B3 := Aside0.mk hb3
  clear hb3
  have CW := Aside0.mk (show Kd.C Kd.string w3 A ws.length ws ∧ ws.length ≤ c from ⟨(Kd.R_reads' ha3).2.2, (Kd.R_reads' ha3).2.1⟩)
  clear ha3
  have hP := (blk_below (blk_below (blk_below BKP.out B1.out) B2.out) B3.out)
  have lP := blk_lt hP
  have yP0 := (blk_cell hP 0).trans rfl
  have yP1 := (blk_cell hP 1).trans rfl
  have yP2 := (blk_cell hP 2).trans rfl
  have yP3 := (blk_cell hP 3).trans rfl
  clear hP
  go_wp2_with (go_at_call 9)
  clear lP yP0 yP1 yP2 yP3
  have hbox := blk_new w3 (Obj.cells #[Value.slice A ws.length c] 32)
  have hbb := below_alloc (Below.refl _ w3) (Obj.cells #[Value.slice A ws.length c] 32)
  generalize w3.alloc (Obj.cells #[Value.slice A ws.length c] 32) = wA at hbox hbb ⊢
  have BKA := Aside0.mk hbox
  have BA := Aside0.mk hbb
  clear hbox hbb
  refine (toDisk_calls k (RdL.below (RdL.below (RdL.below (RdL.below (RdL.below HA.out BP.out) B1.out) B2.out) B3.out) BA.out) HT.out).mono ?_
  rintro e w4 ⟨E0, e0, E1, e1, E2, e2, E3, e3, rfl, hc4, hv0, hv1, hv2, hv3, hb4⟩
  have B4 := Aside0.mk hb4
  clear hb4
  have CE := Aside0.mk hc4
  clear hc4
  have V0 := Aside0.mk hv0
  clear hv0
  have V1 := Aside0.mk hv1
  clear hv1
  have V2 := Aside0.mk hv2
  clear hv2
  have V3 := Aside0.mk hv3
  clear hv3
  go_wp2_with (go_at_call 9)
  have hbox := blk_new w4 (Obj.cells #[Value.slice E0 t0.length e0, Value.slice E1 t1.length e1, Value.slice E2 t2.length e2, Value.slice E3 t3.length e3] 39)
  have hbb := below_alloc (Below.refl _ w4) (Obj.cells #[Value.slice E0 t0.length e0, Value.slice E1 t1.length e1, Value.slice E2 t2.length e2, Value.slice E3 t3.length e3] 39)
  generalize w4.alloc (Obj.cells #[Value.slice E0 t0.length e0, Value.slice E1 t1.length e1, Value.slice E2 t2.length e2, Value.slice E3 t3.length e3] 39) = wX at hbox hbb ⊢
  have BKX := Aside0.mk hbox
  have BX := Aside0.mk hbb
  clear hbox hbb
  refine (implDev_calls k (Rd4.below CE.out BX.out) HI.out).mono ?_
  rintro e w5 ⟨F, f, rfl, hg5, hb5⟩
  have B5 := Aside0.mk hb5
  clear hb5
  have RG := Aside0.mk hg5
  clear hg5
  have hA := (blk_below (blk_below (blk_below BKA.out B4.out) BX.out) B5.out)
  have lA := blk_lt hA
  have yA0 := (blk_cell hA 0).trans rfl
  clear hA
  go_wp2_with (go_at_call 9)
  clear lA yA0
  have hbox := blk_new w5 (Obj.cells #[Value.slice F ws.length f] 32)
  have hbb := below_alloc (Below.refl _ w5) (Obj.cells #[Value.slice F ws.length f] 32)
  generalize w5.alloc (Obj.cells #[Value.slice F ws.length f] 32) = wG at hbox hbb ⊢
  have BKG := Aside0.mk hbox
  have BG := Aside0.mk hbb
  clear hbox hbb
  have CG := Aside0.mk (show Kd.C Kd.string w5 F ws.length ws ∧ ws.length ≤ f from ⟨(Kd.R_reads' RG.out).2.2, (Kd.R_reads' RG.out).2.1⟩)
  refine (eqDev_calls k ⟨(Kd.C_below CG.out.1 BG.out), CG.out.2⟩ ⟨(Kd.C_below (Kd.C_below (Kd.C_below (Kd.C_below (Kd.C_below CW.out.1 BA.out) B4.out) BX.out) B5.out) BG.out), CW.out.2⟩ HE.out).mono ?_
  rintro e w6 ⟨rfl, hb6⟩
  have B6 := Aside0.mk hb6
  clear hb6
  have hP6 := (blk_below (blk_below (blk_below (blk_below (blk_below (blk_below (blk_below (blk_below (blk_below BKP.out B1.out) B2.out) B3.out) BA.out) B4.out) BX.out) B5.out) BG.out) B6.out)
  have hX6 := (blk_below (blk_below (blk_below BKX.out B5.out) BG.out) B6.out)
  go_wp2
  refine start_ (n := 5) (S := fun w' => w'.cell? ⟨w4.heap.size, 0, none⟩ = some (.slice E0 t0.length e0) ∧ w'.cell? ⟨w4.heap.size, 1, none⟩ = some (.slice E1 t1.length e1) ∧ w'.cell? ⟨w4.heap.size, 2, none⟩ = some (.slice E2 t2.length e2) ∧ w'.cell? ⟨w4.heap.size, 3, none⟩ = some (.slice E3 t3.length e3) ∧ w'.cell? ⟨w.heap.size, 0, none⟩ = some (.slice A0 l0.length c0) ∧ w'.cell? ⟨w.heap.size, 1, none⟩ = some (.slice A1 l1.length c1) ∧ w'.cell? ⟨w.heap.size, 2, none⟩ = some (.slice A2 l2.length c2) ∧ w'.cell? ⟨w.heap.size, 3, none⟩ = some (.slice A3 l3.length c3)) (ds := []) #[false, false, false, false, false] (by kernel_rfl) rfl rfl ⟨(blk_cell (blk_drew hX6) 0).trans rfl, (blk_cell (blk_drew hX6) 1).trans rfl, (blk_cell (blk_drew hX6) 2).trans rfl, (blk_cell (blk_drew hX6) 3).trans rfl, (blk_cell (blk_drew hP6) 0).trans rfl, (blk_cell (blk_drew hP6) 1).trans rfl, (blk_cell (blk_drew hP6) 2).trans rfl, (blk_cell (blk_drew hP6) 3).trans rfl⟩ (fun hHeld => ?_)
  clear hP6 hX6
  have hD := below_drew (Below.refl w6.heap.size w6)
  generalize w6.drew = wD at hD hHeld ⊢
  have BD := Aside0.mk hD
  clear hD
  refine take_ (i := 0) (N := some 41) (v := ?_) (a' := ?_) #[true, false, false, false, false] rfl rfl (by kernel_rfl) (fun _ _ _ h => h) (Or.inl ⟨by rfl, ?_⟩) hHeld ?_ ?_
  rotate_left
  · rintro w' ⟨s0, s1, s2, s3, s4, s5, s6, s7⟩
    go_simp
    with_reducible rfl
  rotate_left
  · refine qp ?_
    rfl
  refine take_ (i := 1) (N := some 42) (v := ?_) (a' := ?_) #[true, true, false, false, false] rfl rfl (by kernel_rfl) (fun _ _ _ h => h) (Or.inl ⟨by rfl, ?_⟩) hHeld ?_ ?_
  rotate_left
  · rintro w' ⟨s0, s1, s2, s3, s4, s5, s6, s7⟩
    go_simp
    with_reducible rfl
  rotate_left
  · refine qp ?_
    rfl
  refine one_ (i := 2) (N := some 43) #[true, true, true, false, false] rfl rfl (by kernel_rfl) (by decide) (fun K hK => ?_)
  refine goes_ Try.func16 (by kernel_rfl) rfl #[.agg #[Value.slice A0 l0.length c0, Value.slice A1 l1.length c1, Value.slice A2 l2.length c2, Value.slice A3 l3.length c3]] (by rfl) rfl rfl qm ?_
  refine (toDisk_calls k (RdL.below (RdL.below (RdL.below (RdL.below (RdL.below (RdL.below (RdL.below (RdL.below (RdL.below (RdL.below (RdL.below HA.out BP.out) B1.out) B2.out) B3.out) BA.out) B4.out) BX.out) B5.out) BG.out) B6.out) BD.out) HT.out).mono ?_
  rintro e w7 ⟨U0, u0, U1, u1, U2, u2, U3, u3, rfl, hc7, -, -, -, -, hb7⟩
  have B7 := Aside0.mk hb7
  clear hb7
  have CH := Aside0.mk hc7
  clear hc7
  refine ⟨_, rfl, ?_⟩
  have hP := (blk_below (blk_below (blk_below (blk_below (blk_below (blk_below (blk_below (blk_below (blk_below (blk_below (blk_below BKP.out B1.out) B2.out) B3.out) BA.out) B4.out) BX.out) B5.out) BG.out) B6.out) BD.out) B7.out)
  have hX := (blk_below (blk_below (blk_below (blk_below (blk_below BKX.out B5.out) BG.out) B6.out) BD.out) B7.out)
  refine hK.out _ _ ⟨(blk_cell hX 0).trans rfl, (blk_cell hX 1).trans rfl, (blk_cell hX 2).trans rfl, (blk_cell hX 3).trans rfl, (blk_cell hP 0).trans rfl, (blk_cell hP 1).trans rfl, (blk_cell hP 2).trans rfl, (blk_cell hP 3).trans rfl⟩ (fun hHeld => ?_)
  clear hK K hP hX
  refine norm_ (a' := ?_) ?_ ?_
  rotate_left
  · show Act.put _ (some 43) _ = _
    refine qp ?_
    rfl
  refine one_ (i := 3) (N := some 44) #[true, true, true, true, false] rfl rfl (by kernel_rfl) (by decide) (fun K hK => ?_)
  refine goes_ Try.func19 (by kernel_rfl) rfl #[.agg #[Value.slice E0 t0.length e0, Value.slice E1 t1.length e1, Value.slice E2 t2.length e2, Value.slice E3 t3.length e3], .agg #[Value.slice U0 t0.length u0, Value.slice U1 t1.length u1, Value.slice U2 t2.length u2, Value.slice U3 t3.length u3]] (by rfl) rfl rfl qm ?_
  refine (eqDisk_calls k (Rd4.below (Rd4.below (Rd4.below (Rd4.below (Rd4.below (Rd4.below CE.out BX.out) B5.out) BG.out) B6.out) BD.out) B7.out) CH.out HD.out).mono ?_
  rintro e w8 ⟨rfl, hb8⟩
  have B8 := Aside0.mk hb8
  clear hb8
  refine ⟨_, rfl, ?_⟩
  have hP := (blk_below (blk_below (blk_below (blk_below (blk_below (blk_below (blk_below (blk_below (blk_below (blk_below (blk_below (blk_below BKP.out B1.out) B2.out) B3.out) BA.out) B4.out) BX.out) B5.out) BG.out) B6.out) BD.out) B7.out) B8.out)
  have hX := (blk_below (blk_below (blk_below (blk_below (blk_below (blk_below BKX.out B5.out) BG.out) B6.out) BD.out) B7.out) B8.out)
  refine hK.out _ _ ⟨(blk_cell hX 0).trans rfl, (blk_cell hX 1).trans rfl, (blk_cell hX 2).trans rfl, (blk_cell hX 3).trans rfl, (blk_cell hP 0).trans rfl, (blk_cell hP 1).trans rfl, (blk_cell hP 2).trans rfl, (blk_cell hP 3).trans rfl⟩ (fun hHeld => ?_)
  clear hK K hP hX
  refine norm_ (a' := ?_) ?_ ?_
  rotate_left
  · show Act.put _ (some 44) _ = _
    refine qp ?_
    rfl
  refine pure_ (i := 4) (N := some 45) (v := ?_) (a' := ?_) #[true, true, true, true, true] rfl rfl (by kernel_rfl) (fun _ _ _ h => h) (Or.inl ⟨by rfl, ?_⟩) ?_ ?_
  rotate_left
  · intro w'
    go_simp
    with_reducible rfl
  rotate_left
  · refine qp ?_
    rfl
  refine done_ (by kernel_rfl) ?_
  have hX := (blk_below (blk_below (blk_below (blk_below (blk_below (blk_below BKX.out B5.out) BG.out) B6.out) BD.out) B7.out) B8.out)
  have lX := blk_lt hX
  have yX0 := (blk_cell hX 0).trans rfl
  have yX1 := (blk_cell hX 1).trans rfl
  have yX2 := (blk_cell hX 2).trans rfl
  have yX3 := (blk_cell hX 3).trans rfl
  clear hX
  go_wp2_with (go_at_call 9)
  clear lX yX0 yX1 yX2 yX3
  refine (laws_markDisk.calls k _ _ _ _ t0 t1 t2 t3 1 m1 m2 m r0 r1 r2 r3 wA _ (below_step (below_step (below_step (below_step (below_step (below_step (below_step B4.out BX.out) B5.out) BG.out) B6.out) BD.out) B7.out) B8.out) (Kd.R_below (Kd.R_below (Kd.R_below (Kd.R_below (Kd.R_below (Kd.R_below (Kd.R_below V0.out BX.out) B5.out) BG.out) B6.out) BD.out) B7.out) B8.out) (Kd.R_below (Kd.R_below (Kd.R_below (Kd.R_below (Kd.R_below (Kd.R_below (Kd.R_below V1.out BX.out) B5.out) BG.out) B6.out) BD.out) B7.out) B8.out) (Kd.S_below (Kd.S_below (Kd.S_below (Kd.S_below (Kd.S_below (Kd.S_below (Kd.S_below V2.out BX.out) B5.out) BG.out) B6.out) BD.out) B7.out) B8.out) (Kd.S_below (Kd.S_below (Kd.S_below (Kd.S_below (Kd.S_below (Kd.S_below (Kd.S_below V3.out BX.out) B5.out) BG.out) B6.out) BD.out) B7.out) B8.out) H1.out H2.out H3.out).mono ?_
  rintro e w9 ⟨rfl, -, -, -, -, hb9, hk9⟩
  have B9 := Aside0.mk hb9
  clear hb9
  have BKG9 := Aside0.mk (hk9 _ _ _ (blk_below (blk_below (blk_below (blk_below BKG.out B6.out) BD.out) B7.out) B8.out) (by decide))
  have RG8 := (Kd.R_below (Kd.R_below (Kd.R_below (Kd.R_below (Kd.R_below RG.out BG.out) B6.out) BD.out) B7.out) B8.out)
  have RG9 := Aside0.mk (show Kd.R Kd.string 9 w9 wA.heap.size (fun k_ => some k_ = (Value.slice F ws.length f).ownBlock) (Value.slice F ws.length f) ws from Kd.R_lower (Kd.R_step (Kd.R_tight rfl RG8) (fun k_ hk _ => by
    obtain ⟨cs_, e_⟩ := Kd.R_typed RG8 k_ hk.symm
    rw [e_]
    exact hk9 _ _ _ e_ (by decide))) (below_size (below_step B4.out BX.out)))
  clear RG8 hk9
  have CG9 := Aside0.mk (show Kd.C Kd.string w9 F ws.length ws ∧ ws.length ≤ f from ⟨(Kd.R_reads' RG9.out).2.2, (Kd.R_reads' RG9.out).2.1⟩)
  have hG := BKG9.out
  have lG := blk_lt hG
  have yG0 := (blk_cell hG 0).trans rfl
  clear hG
  have hA := (blk_below BKA.out B9.out)
  have lA := blk_lt hA
  have yA0 := (blk_cell hA 0).trans rfl
  clear hA
  go_wp2_with (go_at_call 9)
  clear lG yG0 lA yA0
  refine (eqDev_calls k CG9.out ⟨(Kd.C_below (Kd.C_below CW.out.1 BA.out) B9.out), CW.out.2⟩ HE.out).mono ?_
  rintro e w10 ⟨rfl, hb10⟩
  have B10 := Aside0.mk hb10
  clear hb10
  have hG := (blk_below BKG9.out B10.out)
  have lG := blk_lt hG
  have yG0 := (blk_cell hG 0).trans rfl
  clear hG
  go_wp2_with (go_at_call 9)
  clear lG yG0
  refine (markDev_calls k (below_step B9.out B10.out) (Kd.R_below RG9.out B10.out) HK.out).mono ?_
  rintro e w11 ⟨rfl, hr11, hb11, hk11⟩
  have B11 := Aside0.mk hb11
  clear hb11
  have BKG11 := Aside0.mk (blk_kept (blk_below BKG9.out B10.out) hk11 (fun e_ => by
    obtain ⟨cs_, q_⟩ := Kd.R_typed RG9.out _ e_.symm
    exact blk_ne (blk_below BKG9.out B10.out) (blk_below q_ B10.out) (by decide) rfl))
  have CG11 := Aside0.mk (show Kd.C Kd.string w11 F rs.length rs ∧ rs.length ≤ f from by
    have y := Kd.R_reads' hr11
    rw [y.1] at y
    exact ⟨y.2.2, y.2.1⟩)
  clear hr11 hk11
  have HF := Aside0.mk (fun (W : World) (hR : Kd.C Kd.string W F rs.length rs ∧ rs.length ≤ f) => heldDev_calls k hR HH.out)
  rw [HL.out] at HF
  have CGR := CG11
  rw [HL.out] at CGR
  have hG := BKG11.out
  have lG := blk_lt hG
  have yG0 := (blk_cell hG 0).trans rfl
  clear hG
  go_wp2_with (go_at_call 9)
  clear lG yG0
  refine (HF.out _ CGR.out).mono ?_
  rintro e w12 ⟨rfl, hb12⟩
  have B12 := Aside0.mk hb12
  clear hb12
  have hP := (blk_below (blk_below (blk_below (blk_below (blk_below (blk_below BKP.out B1.out) B2.out) B3.out) BA.out) B11.out) B12.out)
  have lP := blk_lt hP
  have yP0 := (blk_cell hP 0).trans rfl
  have yP1 := (blk_cell hP 1).trans rfl
  have yP2 := (blk_cell hP 2).trans rfl
  have yP3 := (blk_cell hP 3).trans rfl
  clear hP
  go_wp2_with (go_at_call 9)
  clear lP yP0 yP1 yP2 yP3
  refine (toDisk_calls k (RdL.below (RdL.below (RdL.below (RdL.below (RdL.below (RdL.below (RdL.below HA.out BP.out) B1.out) B2.out) B3.out) BA.out) B11.out) B12.out) HT.out).mono ?_
  rintro e w13 ⟨J0, j0, J1, j1, J2, j2, J3, j3, rfl, hc13, -, -, -, -, hb13⟩
  have B13 := Aside0.mk hb13
  clear hb13
  have CJ := Aside0.mk hc13
  clear hc13
  go_wp2_with (go_at_call 9)
  refine (implDev_calls k CJ.out HI.out).mono ?_
  rintro e w14 ⟨K, kc, rfl, hg14, hb14⟩
  have B14 := Aside0.mk hb14
  clear hb14
  have CK := Aside0.mk (show Kd.C Kd.string w14 K ws.length ws ∧ ws.length ≤ kc from ⟨(Kd.R_reads' hg14).2.2, (Kd.R_reads' hg14).2.1⟩)
  clear hg14
  have hA := (blk_below (blk_below (blk_below (blk_below BKA.out B11.out) B12.out) B13.out) B14.out)
  have lA := blk_lt hA
  have yA0 := (blk_cell hA 0).trans rfl
  clear hA
  go_wp2_with (go_at_call 9)
  clear lA yA0
  have hbox := blk_new w14 (Obj.cells #[Value.slice K ws.length kc] 32)
  have hbb := below_alloc (Below.refl _ w14) (Obj.cells #[Value.slice K ws.length kc] 32)
  generalize w14.alloc (Obj.cells #[Value.slice K ws.length kc] 32) = wH at hbox hbb ⊢
  have BKH := Aside0.mk hbox
  have BH := Aside0.mk hbb
  clear hbox hbb
  refine (eqDev_calls k ⟨(Kd.C_below CK.out.1 BH.out), CK.out.2⟩ ⟨(Kd.C_below (Kd.C_below (Kd.C_below (Kd.C_below (Kd.C_below (Kd.C_below CW.out.1 BA.out) B11.out) B12.out) B13.out) B14.out) BH.out), CW.out.2⟩ HE.out).mono ?_
  rintro e w15 ⟨rfl, hb15⟩
  have B15 := Aside0.mk hb15
  clear hb15
  have hG := (blk_below (blk_below (blk_below (blk_below (blk_below BKG11.out B12.out) B13.out) B14.out) BH.out) B15.out)
  have lG := blk_lt hG
  have yG0 := (blk_cell hG 0).trans rfl
  clear hG
  go_wp2_with (go_at_call 9)
  clear lG yG0
  refine (HF.out _ ⟨(Kd.C_below (Kd.C_below (Kd.C_below (Kd.C_below (Kd.C_below CGR.out.1 B12.out) B13.out) B14.out) BH.out) B15.out), CGR.out.2⟩).mono ?_
  rintro e w16 ⟨rfl, hb16⟩
  have B16 := Aside0.mk hb16
  clear hb16
  go_wp2
  go_ret
  exact ⟨rfl, (below_step (below_step (below_step (below_step (below_step (below_step (below_step (below_step (below_step (below_step (below_step BP.out B1.out) B2.out) B3.out) BA.out) B11.out) B12.out) B13.out) B14.out) BH.out) B15.out) B16.out)⟩
end Go.Proofs.Ytdnbpapolckklaa.PFnExactDeviceOf
