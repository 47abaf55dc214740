-- Written by a program of this session (a changed copy of the kit's print: wip/print2). Lean checks it.
import Derived.Test.YtdnbpapolckklaaPax
import Derived.Test.YtdnbpapolckklaaPFnExactDiskOfx0
import Derived.Test.YtdnbpapolckklaaPFnExactDiskOfx16
import Derived.Test.YtdnbpapolckklaaPFnExactDiskOfx17
namespace Go.Proofs.Ytdnbpapolckklaa.PFnExactDiskOf
open Go.RowKit Go.Proofs.YtdnbpapolckklaaW.PrintWords Go.Proofs.YtdnbpapolckklaaW.PrintLast Go.Proofs.YtdnbpapolckklaaW.PrintMore
attribute [local go_sem] max2_int min2_int max_two min_two max_three min_three max_four min_four   -- for this text's walks alone
attribute [local go_sem] Go.Proofs.Ytdnbpapolckklaa.Pad.isSome_setCell
set_option linter.unusedVariables false
set_option linter.unusedSimpArgs false

/-! ### impl_ReadBlock: function 45 -/
mutual
def impl_ReadBlock.j1 : Nat → ByteArray → Bool → List (S69) → ByteArray → Option (Bool × (List (S69)) × ByteArray × Bool)
 | 0, _, _, _, _ => none
 | k + 1, x0, x352000, x352001, x352002 => (impl_BlockText.f k x352000 x352001 x352002).bind fun bt361 => (if bt361.2 = true then (if bt361.1.toList = x0.toList then (some (x352000, x352001, x352002, true)) else (some (false, ([] : List (S69)), (⟨#[]⟩ : ByteArray), false))) else (some (false, ([] : List (S69)), (⟨#[]⟩ : ByteArray), false)))
def impl_ReadBlock.l0 : Nat → ByteArray → Int → Int → Int → Bool → List (S69) → ByteArray → Option (Bool × (List (S69)) × ByteArray × Bool)
 | 0, _, _, _, _, _, _, _ => none
 | k + 1, x0, x5, x24, x25, x352000, x352001, x352002 => if x25 < x24 then ((impl_ReadShort.f k x0 (wrap64 (x5 + 1))).bind fun bt357 => (if bt357.2.2 = true then (if 0 ≤ x5 then (if x5 < (x0.size : Int) then (if 0 ≤ x25 then (if x25 < (x352001.length : Int) then (impl_ReadBlock.l0 k x0 bt357.2.1 x24 (wrap64 (x25 + 1)) x352000 (x352001.set (x25 : Int).toNat (⟨bt357.1, wrap64 (bt x0 x5)⟩ : S69)) x352002) else (none)) else (none)) else (none)) else (none)) else (some (false, ([] : List (S69)), (⟨#[]⟩ : ByteArray), false)))) else (impl_ReadBlock.j1 k x0 x352000 x352001 x352002)
end
def impl_ReadBlock.f (k : Nat) (a0 : ByteArray) : Option (Bool × (List (S69)) × ByteArray × Bool) := if a0.toList = ([] : List UInt8) then (some (false, ([] : List (S69)), (⟨#[]⟩ : ByteArray), false)) else (if 1 ≤ (a0.size : Int) then (if 0 < (a0.size : Int) then (if (bt a0 0) = 100 then ((impl_DirNew.f).bind fun bt352 => (impl_ReadBlock.l0 k a0 1 (bt352.2.1.length : Int) 0 bt352.1 bt352.2.1 bt352.2.2)) else (impl_ReadBlock.j1 k a0 false ([] : List (S69)) (a0.extract 1 a0.size))) else (none)) else (none))
def impl_ReadBlock.T13 : Bool × List (List Nat × List Nat) := (true, [([], []), ([0], [0]), ([], []), ([], []), ([], []), ([], []), ([4, 5], [4, 5]), ([6], [6]), ([3, 7], [3, 7]), ([1, 2, 0, 1, 2, 3, 4, 5, 6, 7, 8], [1, 2]), ([9, 8, 0, 1, 2, 3, 4, 5, 6, 7, 8], [8, 9])])
def impl_ReadBlock.B13 : List Nat := [0, 1, 0, 0, 0, 0, 48, 112, 248, 511, 1023]
theorem impl_ReadBlock.tab13 : rtab .any (opsOf Try.f45 13) = impl_ReadBlock.T13 := by kernel_rfl
theorem impl_ReadBlock.bits13 : waitsOk impl_ReadBlock.T13.2 impl_ReadBlock.B13 = true := by kernel_rfl
set_option maxHeartbeats 8000000 in
set_option maxRecDepth 100000 in
theorem impl_ReadBlock.calls (k : Nat) (a0 : ByteArray) (r1 : Bool) (r2 : List (S69)) (r3 : ByteArray) (r4 : Bool) (w : World) (h : impl_ReadBlock.f k a0 = some (r1, r2, r3, r4)) :
  Calls Try.prog 45 #[.string a0] w fun e w' => ∃ v1_ : Value, e = .returned (.tuple #[.agg #[.bool r1, v1_, .string r3], .bool r4]) ∧ Kd.R k69 69 w' w.heap.size (fun _ => True) v1_ r2 ∧ Below w.heap.size w w' := by
 have hu59 := Try.underlying59
 have hu69 := Try.underlying69
 have HB := vA (Below.refl w.heap.size w)
 have H : (if a0.toList = ([] : List UInt8) then (some (false, ([] : List (S69)), (⟨#[]⟩ : ByteArray), false)) else (if 1 ≤ (a0.size : Int) then (if 0 < (a0.size : Int) then (if (bt a0 0) = 100 then ((impl_DirNew.f).bind fun bt352 => (impl_ReadBlock.l0 k a0 1 (bt352.2.1.length : Int) 0 bt352.1 bt352.2.1 bt352.2.2)) else (impl_ReadBlock.j1 k a0 false ([] : List (S69)) (a0.extract 1 a0.size))) else (none)) else (none))) = some (r1, r2, r3, r4) := h
 clear h
 by_cases c2 : a0.toList = ([] : List UInt8)
 ·rw [if_pos c2] at H
  have c2b0 : (a0.toList == ([] : List UInt8)) = true := beq_iff_eq.mpr c2; have c2b1 : (a0.toList != ([] : List UInt8)) = false := bne_eq_false_iff_eq.mpr c2; clear c2
  simp only [Option.some.injEq, Prod.mk.injEq] at H
  obtain ⟨rfl, rfl, rfl, rfl⟩ := H
  go_enter Try.func45, Try.ntmps45
  go_wp2_with (first | ((with_reducible refine gate_dst (N := 2) rfl ?_); refine vx (N := 2) (cs := #[.bool false, .slice none 0 0, .string (⟨#[]⟩ : ByteArray)]) (t := 59) ?_; intro gb350 hg w3 hbox hb; have BK350 := vA (hbox); have GW350 := vA ((vg hg (qb HB.out))); have GE350 := GW350; replace HB := vbs HB hb; clear hb hbox hg; obtain ⟨hcz4_0, hcz4_1, hcz4_2⟩ := v3c BK350.out; obtain ⟨hfz4_0, hfz4_1, hfz4_2⟩ := v3f BK350.out))
  refine bodyPost_ret (results_ct rfl _ _ gb350 59 #[.bool false, .slice none 0 0, .string (⟨#[]⟩ : ByteArray)] (0, 0) _ rfl (blk_put (blk_put (blk_put BK350.out 0 _ rfl) 1 _ rfl) 2 _ rfl) Try.underlying59 rfl (by kernel_rfl)) rfl ?_
  exact ⟨_, qe, by first | exact Kd.R_nil _ _ _ _ _ | exact Kd.N_nil _ _ _ _ _ | exact Kd.V_nil _ _ _ _ _ | exact Kd.Q_nil _ _ _ _ _ | exact Kd.S_nil _ _ _ _ _, qb1 HB.out GE350.out⟩
 ·rw [if_neg c2] at H
  have c2b0 : (a0.toList == ([] : List UInt8)) = false := beq_eq_false_iff_ne.mpr c2; have c2b1 : (a0.toList != ([] : List UInt8)) = true := bne_iff_ne.mpr c2
  by_cases c5 : 1 ≤ (a0.size : Int)
  ·rw [if_pos c5] at H
   have c5b0 := eq_true c5; have c5b1 : decide (1 ≤ (a0.size : Int)) = true := decide_eq_true c5; clear c5
   by_cases c6 : 0 < (a0.size : Int)
   ·rw [if_pos c6] at H
    have c6b0 : decide (0 < (a0.size : Int)) = true := decide_eq_true c6
    have c6b1 : decide (0 < a0.size) = true := decide_eq_true (by omega)
    clear c6; have HC8 := vA H; clear H
    go_enter Try.func45, Try.ntmps45
    go_upto_if 20 with (first | ((with_reducible refine gate_dst (N := 2) rfl ?_); refine vx (N := 2) (cs := #[.bool false, .slice none 0 0, .string (⟨#[]⟩ : ByteArray)]) (t := 59) ?_; intro gb350 hg w9 hbox hb; have BK350 := vA (hbox); have GW350 := vA ((vg hg (qb HB.out))); have GE350 := GW350; replace HB := vbs HB hb; clear hb hbox hg) | ((with_reducible refine gate_dst (N := 4) rfl ?_); refine vx (N := 4) (cs := #[.bool false, .slice none 0 0, .string (⟨#[]⟩ : ByteArray)]) (t := 59) ?_; intro gb351 hg w10 hbox hb; have BK351 := vA (hbox); have GW351 := vA ((vg hg (vh HB))); have GE351 := GW351; replace HB := vbs HB hb; have NB350_351 := vn hg BK350; have NB351_350 := vN hg BK350; replace BK350 := vw BK350 hb; clear hb hbox hg; have hnb11 := NB351_350.out; have hnc11 := NB350_351.out; obtain ⟨hcz12_0, hcz12_1, hcz12_2⟩ := v3c BK351.out; obtain ⟨hfz12_0, hfz12_1, hfz12_2⟩ := v3f BK351.out; have p7 : 0 ≤ (0 : Int) := (by omega); have q7 : 0 < a0.size := (by have : (0 : Int) < (a0.size : Int) := qo; omega); have hx7 : ∀ h : 0 < a0.size, ((a0[0]'h).toNat : Int) = bt a0 0 := bt_at a0 0; clear p7; have qi7 : (0 < (a0.size : Int)) = True := eq_true qo; replace q7 := eq_true q7))
    (try simp only [Act.put, List.setIfInBounds_toArray, List.set_cons_zero, List.set_cons_succ])
    go_cut [] (fun wc => ∃ (kq : Nat) (x351000_7 : Bool) (x351002_7 : ByteArray) (x352000_7 : Bool) (x352001_7 : List (S69)) (x352002_7 : ByteArray) (u352001 : Value), Aside0 (impl_ReadBlock.j1 kq a0 x352000_7 x352001_7 x352002_7 = some (r1, r2, r3, r4)) ∧ Aside0 (kq ≤ k) ∧ Aside0 (Kd.R k69 69 wc w.heap.size (fun _ => True) u352001 x352001_7) ∧ Aside0 (wc.heap[gb350]? = some (.cells #[.bool x351000_7, (.slice none 0 0), .string x351002_7] 59 (0, 0))) ∧ Aside0 (wc.heap[gb351]? = some (.cells #[.bool x352000_7, u352001, .string x352002_7] 59 (0, 0))) ∧ Aside0 (Below w.heap.size w wc))
    case first =>
     have H := HC8.out; clear HC8
     by_cases c13 : (bt a0 0) = 100
     ·rw [if_pos c13] at H
      have c13b0 : ((bt a0 0) == 100) = true := beq_iff_eq.mpr c13; have c13b1 : ((bt a0 0) != 100) = false := bne_eq_false_iff_eq.mpr c13; clear c13
      (first | rw [c13b0] | (simp only [i64_w, i32_w]; rw [c13b0]) | skip)
      replace H := Option.bind_eq_some_iff.mp H; obtain ⟨⟨t352, t353, t356⟩, A140, H⟩ := H
      dsimp only at H
      have A14 := vA A140; clear A140; have H' := vA H; clear H
      go_wp2_with (first | ((with_reducible refine gate_callee (f := 38) rfl ?_); refine goesL_ (some 21) rfl rfl Try.func38 (by kernel_rfl) rfl #[] rfl qm ?_; (with_reducible refine (impl_DirNew.calls  t352 t353 t356 _ A14.out).mono ?_); rintro e w15 ⟨v354, rfl, ho0, hb⟩; refine ⟨_, rfl, ?_⟩; have HO355 := vA (Kd.R_lower ho0 (below_size (vh HB))); replace BK350 := vB BK350 NB350_351 hb; replace BK351 := vA (blk_below (g := gb351) (o := .cells #[.bool false, .slice none 0 0, .string (a0.extract 1 a0.size)] 59 (0, 0)) (blk_put (blk_put (blk_put BK351.out 0 _ rfl) 1 _ rfl) 2 _ rfl) hb); replace HB := vbs HB hb; clear hb ho0; have hnb16 := NB351_350.out; have hnc16 := NB350_351.out; obtain ⟨hcz17_0, hcz17_1, hcz17_2⟩ := v3c BK351.out; obtain ⟨hfz17_0, hfz17_1, hfz17_2⟩ := v3f BK351.out; obtain ⟨Ao18, co18, eo18⟩ := Kd.R_slice HO355.out; subst eo18))
      go_loopg [5, 25] k (fun kq v5 v25 w' => ∃ (x5_1 : Int) (x25_1 : Int) (x351000_1 : Bool) (x351002_1 : ByteArray) (x352001_1 : List (S69)) (u352001 : Value), v5 = .int .i64 x5_1 ∧ v25 = .int .i64 x25_1 ∧ Aside0 (impl_ReadBlock.l0 kq a0 x5_1 (t353.length : Int) x25_1 t352 x352001_1 t356 = some (r1, r2, r3, r4)) ∧ Aside0 (kq ≤ k) ∧ Aside0 (Kd.R k69 69 w' w.heap.size (fun _ => True) u352001 x352001_1) ∧ Aside0 (w'.heap[gb350]? = some (.cells #[.bool x351000_1, (.slice none 0 0), .string x351002_1] 59 (0, 0))) ∧ Aside0 (w'.heap[gb351]? = some (.cells #[.bool t352, u352001, .string t356] 59 (0, 0))) ∧ Aside0 (Below w.heap.size w w'))
      case atStart => exact ⟨(1), (0), (false), ((⟨#[]⟩ : ByteArray)), (t353), (.slice Ao18 t353.length co18), qz, qz, H', ⟨Nat.le_refl _⟩, ⟨by refine qR ?_; exact Kd.R_mono (Kd.R_far (p := ⟨gb351, 2, none⟩) (Kd.R_far (p := ⟨gb351, 1, none⟩) (Kd.R_far (p := ⟨gb351, 0, none⟩) (Kd.R_types HO355.out BK351.out (by decide)) (fun _ hk => hk.2) (.bool t352)) (fun _ hk => hk.2) (.slice Ao18 t353.length co18)) (fun _ hk => hk.2) (.string t356)) (fun _ hk => trivial)⟩, ⟨by refine qK ?_; refine blk_far ?_ NB350_351.out _; refine qK ?_; refine blk_far ?_ NB350_351.out _; refine qK ?_; refine blk_far ?_ NB350_351.out _; refine qK ?_; exact BK350.out⟩, ⟨by refine qK ?_; refine blk_put (cs := #[.bool t352, .slice Ao18 t353.length co18, .string (a0.extract 1 a0.size)]) ?_ 2 _ rfl; refine qK ?_; refine blk_put (cs := #[.bool t352, .slice none 0 0, .string (a0.extract 1 a0.size)]) ?_ 1 _ rfl; refine qK ?_; refine blk_put (cs := #[.bool false, .slice none 0 0, .string (a0.extract 1 a0.size)]) ?_ 0 _ rfl; refine qK ?_; exact BK351.out⟩, ⟨qb2 HB.out GE350.out GE351.out⟩⟩
      case round =>
       clear H'
       (try clear c1); (try clear c2); (try clear c2b0); (try clear c2b1); (try clear p2); (try clear c3); (try clear c4); (try clear c5); (try clear c5b0); (try clear c5b1); (try clear c6); (try clear c6b0); (try clear c6b1); (try clear p7); (try clear q7); (try clear hx7); (try clear qi7); (try clear c11); (try clear c13); (try clear c13b0); (try clear c13b1); (try clear c16); (try clear hcz12_0); (try clear hcz12_1); (try clear hcz12_2); (try clear hcz17_0); (try clear hcz17_1); (try clear hcz17_2); (try clear hcz4_0); (try clear hcz4_1); (try clear hcz4_2); (try clear hfz12_0); (try clear hfz12_1); (try clear hfz12_2); (try clear hfz17_0); (try clear hfz17_1); (try clear hfz17_2); (try clear hfz4_0); (try clear hfz4_1); (try clear hfz4_2); (try clear p7); (try clear q7)
       obtain ⟨x5_1, x25_1, x351000_1, x351002_1, x352001_1, u352001, rfl, rfl, HA, HK1, HO_352001, BK350, BK351, HB⟩ := hrel
       cases gk with
       | zero => exact absurd HA.out (by simp [impl_ReadBlock.l0])
       | succ k1 =>
        have H := HA.out; clear HA
        simp only [impl_ReadBlock.l0] at H
        by_cases c19 : x25_1 < (t353.length : Int)
        ·rw [if_pos c19] at H
         have c19b0 : decide (x25_1 < (t353.length : Int)) = true := decide_eq_true c19; clear c19; replace H := Option.bind_eq_some_iff.mp H; obtain ⟨⟨t357, t358, t359⟩, A200, H⟩ := H
         dsimp only at H
         have A20 := vA A200; clear A200
         by_cases c21 : t359 = true
         ·subst c21
          rw [if_pos rfl] at H
          by_cases c22 : 0 ≤ x5_1
          ·rw [if_pos c22] at H
           have c22b0 : decide (0 ≤ x5_1) = true := decide_eq_true c22; clear c22
           by_cases c23 : x5_1 < (a0.size : Int)
           ·rw [if_pos c23] at H
            have c23b0 : decide (x5_1 < (a0.size : Int)) = true := decide_eq_true c23; clear c23
            by_cases c25 : 0 ≤ x25_1
            ·rw [if_pos c25] at H
             have c25b0 : decide (0 ≤ x25_1) = true := decide_eq_true c25; clear c25
             by_cases c26 : x25_1 < (x352001_1.length : Int)
             ·rw [if_pos c26] at H
              have c26b0 : decide (x25_1 < (x352001_1.length : Int)) = true := decide_eq_true c26; clear c26; obtain ⟨y360, hy360⟩ : ∃ y_ : List (S69), y_ = (x352001_1.set (x25_1 : Int).toNat (⟨t357, wrap64 (bt a0 x5_1)⟩ : S69)) := ⟨_, rfl⟩
              first | rw [Option.bind_some, ← hy360] at H | rw [← hy360] at H
              have Ny360 := vA hy360; clear hy360; have H' := vA H; clear H
              try go_wp2_with (first | ((with_reducible refine gate_callee (f := 105) rfl ?_); refine goesL_ (some 32) rfl rfl Try.func105 (by kernel_rfl) rfl #[.string a0, .int .i64 (wrap64 (x5_1 + 1))] rfl qm ?_; (with_reducible refine (impl_ReadShort.calls k1 a0 (wrap64 (x5_1 + 1)) t357 t358 true _ A20.out).mono ?_); rintro e w' ⟨rfl, ⟨nd, rfl⟩⟩; refine ⟨_, rfl, ?_⟩; (try (rw [drewN_self wr]; generalize hq_ : World.drewN wr _ = wr; have n0_ : Aside0 (Kd.R k69 69 wr w.heap.size (fun _ => True) u352001 x352001_1) := ⟨by rw [← hq_]; exact (qr HO_352001.out)⟩; have n1_ : Aside0 (wr.heap[gb350]? = some (.cells #[.bool x351000_1, .slice none 0 0, .string x351002_1] 59 (0, 0))) := ⟨by rw [← hq_]; exact (qk BK350.out)⟩; have n2_ : Aside0 (wr.heap[gb351]? = some (.cells #[.bool t352, u352001, .string t356] 59 (0, 0))) := ⟨by rw [← hq_]; exact (qk BK351.out)⟩; have n3_ : Aside0 (Below w.heap.size w wr) := ⟨by rw [← hq_]; exact (vh HB)⟩; clear HO_352001 BK350 BK351 HB hq_; have HO_352001 := n0_; have BK350 := n1_; have BK351 := n2_; have HB := n3_; clear n0_ n1_ n2_ n3_))))
              replace HO_352001 := vA (Kd.R_drew HO_352001.out); replace BK350 := vA (blk_drew BK350.out); replace BK351 := vA (blk_drew BK351.out); replace HB := vA (below_drew1 HB.out); have p24 : 0 ≤ (x5_1 : Int) := qo; have q24 : x5_1 < (a0.size : Int) := qo; have hx24 := bt_at a0 x5_1; replace p24 := eq_true p24; replace q24 := eq_true q24; have p27 : 0 ≤ (x25_1 : Int) := qo; have q27 : (x25_1 : Int) < ((x352001_1.length : Int) : Int) := qo
              obtain ⟨go27, co27, eo27, gb27, gl27, cl27, HG27⟩ := Kd.R_form HO_352001.out (by omega)
              (first | cases eo27 | (injection eo27 with ea_ en_ ec_; (first | subst ea_ | (injection ea_ with ea_; subst ea_)); subst ec_; clear en_))
              have GB27 := vA gb27; have GG27 := vA HG27; clear gb27 gl27 HG27; obtain ⟨ce27, hcl27, hM27, hcc27, hfr27⟩ := Kd.R_elem HO_352001.out z69 (x25_1 : Int) p27 q27; obtain rfl := k69_openM hM27; have hx27_0 : World.cell? _ ⟨go27, (x25_1 : Int).toNat * 2, none⟩ = some (.string ((rd_T69 x352001_1 x25_1).f0)) := hcc27 0 _ rfl; have hx27_1 : World.cell? _ ⟨go27, (x25_1 : Int).toNat * 2 + 1, none⟩ = some (.int .i64 ((rd_T69 x352001_1 x25_1).f1)) := hcc27 1 _ rfl; have hf27_0 : World.frozen? _ ⟨go27, (x25_1 : Int).toNat * 2, none⟩ = false := hfr27 0; have hf27_1 : World.frozen? _ ⟨go27, (x25_1 : Int).toNat * 2 + 1, none⟩ = false := hfr27 1; clear hcl27 hcc27 hfr27 hM27; replace p27 := eq_true p27; replace q27 := eq_true q27
              obtain ⟨ce29, hcl29, hM29, hcc29, hfr29⟩ := Kd.R_elem HO_352001.out z69 (x25_1 : Int) qo (by have h_ : (x25_1 : Int) < ((x352001_1.length : Int) : Int) := qo; first | exact h_ | (have e_ := (Kd.R_reads' HO_352001.out).1; omega) | simpa using h_)
              obtain rfl := k69_openM hM29
              have HP29 := (Kd.R_seg HO_352001.out (x25_1 : Int) qo (by have h_ : (x25_1 : Int) < ((x352001_1.length : Int) : Int) := qo; first | exact h_ | (have e_ := (Kd.R_reads' HO_352001.out).1; omega) | simpa using h_) (seg := [.string t357, .int .i64 (wrap64 (bt a0 x5_1))]) (j := 0) hcl29 hcc29 (show 2 ≤ 2 from by decide) (x' := (⟨t357, wrap64 (bt a0 x5_1)⟩ : S69)) (k69_mkM _ _ _ (⟨t357, wrap64 (bt a0 x5_1)⟩ : S69) ) (fun _ hk => hk)).1
              rw [← Ny360.out] at HP29; have HQ29 := vA HP29; clear hcl29 hcc29 hfr29 hM29 HP29
              refine start_ (n := 11) (S := fun w' => w'.cell? ⟨gb351, 0, none⟩ = some (.bool t352) ∧ w'.cell? ⟨gb351, 1, none⟩ = some (.slice (some ⟨go27, 0, none⟩) x352001_1.length co27) ∧ w'.cell? ⟨gb351, 2, none⟩ = some (.string t356)) (ds := [10]) #[false, false, false, false, false, false, false, false, false, false, false] (by kernel_rfl) rfl rfl ⟨(blk_cell BK351.out 0).trans rfl, (blk_cell BK351.out 1).trans rfl, (blk_cell BK351.out 2).trans rfl⟩ (fun hHeld => ?_); refine with_tabW impl_ReadBlock.tab13 impl_ReadBlock.bits13 (fun HT_ HW_ => ?_)
              generalize wr.drew = w28 at HO_352001 BK350 BK351 HB GG27 HQ29 hf27_0 hf27_1 hx27_0 hx27_1 hHeld ⊢
              refine pure_ (i := 0) (N := some 39) (v := ?_) (a' := ?_) #[true, false, false, false, false, false, false, false, false, false, false] rfl rfl (any_of HT_.out (by kernel_rfl)) (fun _ _ _ h => h) (Or.inl ⟨by rfl, ?_⟩) ?_ ?_
              rotate_left
              ·intro w'
               go_simp
               with_reducible rfl
              rotate_left
              ·refine qp ?_
               rfl
              refine pure_ (i := 2) (N := some 41) (v := ?_) (a' := ?_) #[true, false, true, false, false, false, false, false, false, false, false] rfl rfl (any_of HT_.out (by kernel_rfl)) (fun _ _ _ h => h) (Or.inl ⟨by rfl, ?_⟩) ?_ ?_
              rotate_left
              ·intro w'
               go_simp
               with_reducible rfl
              rotate_left
              ·refine qp ?_
               rfl
              refine pure_ (i := 3) (N := some 42) (v := ?_) (a' := ?_) #[true, false, true, true, false, false, false, false, false, false, false] rfl rfl (any_of HT_.out (by kernel_rfl)) (fun _ _ _ h => h) (Or.inl ⟨by rfl, ?_⟩) ?_ ?_
              rotate_left
              ·intro w'
               go_simp
               with_reducible rfl
              rotate_left
              ·refine qp ?_
               rfl
              refine pure_ (i := 4) (N := some 43) (v := ?_) (a' := ?_) #[true, false, true, true, true, false, false, false, false, false, false] rfl rfl (any_of HT_.out (by kernel_rfl)) (fun _ _ _ h => h) (Or.inl ⟨by rfl, ?_⟩) ?_ ?_
              rotate_left
              ·intro w'
               go_simp
               with_reducible rfl
              rotate_left
              ·refine qp ?_
               rfl
              refine pure_ (i := 5) (N := some 44) (v := ?_) (a' := ?_) #[true, false, true, true, true, true, false, false, false, false, false] rfl rfl (any_of HT_.out (by kernel_rfl)) (fun _ _ _ h => h) (Or.inl ⟨by rfl, ?_⟩) ?_ ?_
              rotate_left
              ·intro w'
               go_simp
               with_reducible rfl
              rotate_left
              ·refine qp ?_
               rfl
              refine take_ (i := 1) (N := some 40) (v := ?_) (a' := ?_) #[true, true, true, true, true, true, false, false, false, false, false] rfl rfl (take_ofW HT_.out HW_.out (by kernel_rfl)) (fun _ _ _ h => h) (Or.inl ⟨by rfl, ?_⟩) hHeld ?_ ?_
              rotate_left
              ·rintro w' ⟨s0, s1, s2⟩
               go_simp
               with_reducible rfl
              rotate_left
              ·refine qp ?_
               rfl
              refine take_ (i := 6) (N := some 45) (v := ?_) (a' := ?_) #[true, true, true, true, true, true, true, false, false, false, false] rfl rfl (take_ofW HT_.out HW_.out (by kernel_rfl)) (fun _ _ _ h => h) (Or.inl ⟨by rfl, ?_⟩) hHeld ?_ ?_
              rotate_left
              ·rintro w' ⟨s0, s1, s2⟩
               go_simp
               with_reducible rfl
              rotate_left
              ·refine qp ?_
               rfl
              refine pure_ (i := 7) (N := some 46) (v := ?_) (a' := ?_) #[true, true, true, true, true, true, true, true, false, false, false] rfl rfl (any_of HT_.out (by kernel_rfl)) (fun _ _ _ h => h) (Or.inl ⟨by rfl, ?_⟩) ?_ ?_
              rotate_left
              ·intro w'
               go_simp
               with_reducible rfl
              rotate_left
              ·refine qp ?_
               rfl
              refine pure_ (i := 8) (N := some 47) (v := ?_) (a' := ?_) #[true, true, true, true, true, true, true, true, true, false, false] rfl rfl (any_of HT_.out (by kernel_rfl)) (fun _ _ _ h => h) (Or.inl ⟨by rfl, ?_⟩) ?_ ?_
              rotate_left
              ·intro w'
               go_simp
               with_reducible rfl
              rotate_left
              ·refine qp ?_
               rfl
              refine pure_ (i := 9) (N := some 48) (v := ?_) (a' := ?_) #[true, true, true, true, true, true, true, true, true, true, false] rfl rfl (any_of HT_.out (by kernel_rfl)) (fun _ _ _ h => h) (Or.inl ⟨by rfl, ?_⟩) ?_ ?_
              rotate_left
              ·intro w'
               go_simp
               with_reducible rfl
              rotate_left
              ·refine qp ?_
               rfl
              refine last_ (i := 10) (N := none) #[true, true, true, true, true, true, true, true, true, true, true] rfl rfl (one_of HT_.out (by kernel_rfl)) (by decide) (fun K hK => ?_)
              refine skip_ (w1 := ?_) (by rfl) rfl ?_ ?_
              rotate_left
              ·go_simp
               rfl
              refine hK.out _ _ ?_; clear hK K
              refine done_ (done_of HT_.out (by kernel_rfl)) ?_
              try go_wp2
              go_roundg k1
              case measure => have := HK1.out; omega
              case rel => exact ⟨(t358), (wrap64 (x25_1 + 1)), (x351000_1), (x351002_1), (y360), (.slice (some ⟨go27, 0, none⟩) x352001_1.length co27), qz, qz, H', ⟨by have := HK1.out; omega⟩, ⟨qr HQ29.out⟩, ⟨by refine qK ?_; refine blk_far ?_ (by have h_ := Kd.R_ne HO_352001.out BK350.out (by decide); intro e_; exact h_ (by rw [e_]; rfl)) _; refine qK ?_; refine blk_far ?_ (by have h_ := Kd.R_ne HO_352001.out BK350.out (by decide); intro e_; exact h_ (by rw [e_]; rfl)) _; refine qK ?_; exact BK350.out⟩, ⟨by refine qK ?_; refine blk_far ?_ (by have h_ := Kd.R_ne HO_352001.out BK351.out (by decide); intro e_; exact h_ (by rw [e_]; rfl)) _; refine qK ?_; refine blk_far ?_ (by have h_ := Kd.R_ne HO_352001.out BK351.out (by decide); intro e_; exact h_ (by rw [e_]; rfl)) _; refine qK ?_; exact BK351.out⟩, ⟨qb4 HB.out GB27.out GB27.out GE350.out GE351.out⟩⟩
             ·rw [if_neg c26] at H
              exact absurd H (by simp)
            ·rw [if_neg c25] at H
             exact absurd H (by simp)
           ·rw [if_neg c23] at H
            exact absurd H (by simp)
          ·rw [if_neg c22] at H
           exact absurd H (by simp)
         ·replace c21 := Bool.eq_false_iff.mpr c21
          subst c21
          rw [if_neg (show ¬ (false = true) by decide)] at H
          simp only [Option.some.injEq, Prod.mk.injEq] at H
          obtain ⟨rfl, rfl, rfl, rfl⟩ := H
          go_wp2_with (first | ((with_reducible refine gate_callee (f := 105) rfl ?_); refine goesL_ (some 32) rfl rfl Try.func105 (by kernel_rfl) rfl #[.string a0, .int .i64 (wrap64 (x5_1 + 1))] rfl qm ?_; (with_reducible refine (impl_ReadShort.calls k1 a0 (wrap64 (x5_1 + 1)) t357 t358 false _ A20.out).mono ?_); rintro e w' ⟨rfl, ⟨nd, rfl⟩⟩; refine ⟨_, rfl, ?_⟩; (try (rw [drewN_self wr]; generalize hq_ : World.drewN wr _ = wr; have n0_ : Aside0 (Kd.R k69 69 wr w.heap.size (fun _ => True) u352001 x352001_1) := ⟨by rw [← hq_]; exact (qr HO_352001.out)⟩; have n1_ : Aside0 (wr.heap[gb350]? = some (.cells #[.bool x351000_1, .slice none 0 0, .string x351002_1] 59 (0, 0))) := ⟨by rw [← hq_]; exact (qk BK350.out)⟩; have n2_ : Aside0 (wr.heap[gb351]? = some (.cells #[.bool t352, u352001, .string t356] 59 (0, 0))) := ⟨by rw [← hq_]; exact (qk BK351.out)⟩; have n3_ : Aside0 (Below w.heap.size w wr) := ⟨by rw [← hq_]; exact (vh HB)⟩; clear HO_352001 BK350 BK351 HB hq_; have HO_352001 := n0_; have BK350 := n1_; have BK351 := n2_; have HB := n3_; clear n0_ n1_ n2_ n3_)); have hnb30 := NB350_351.out; have hnc30 := NB351_350.out; obtain ⟨hcz31_0, hcz31_1, hcz31_2⟩ := v3c BK350.out; obtain ⟨hfz31_0, hfz31_1, hfz31_2⟩ := v3f BK350.out))
          refine bodyPost_ret (results_ct rfl _ _ gb350 59 #[.bool false, .slice none 0 0, .string (⟨#[]⟩ : ByteArray)] (0, 0) _ rfl (blk_put (blk_put (blk_put BK350.out 0 _ rfl) 1 _ rfl) 2 _ rfl) Try.underlying59 rfl (by kernel_rfl)) rfl ?_
          exact ⟨_, qe, by first | exact Kd.R_nil _ _ _ _ _ | exact Kd.N_nil _ _ _ _ _ | exact Kd.V_nil _ _ _ _ _ | exact Kd.Q_nil _ _ _ _ _ | exact Kd.S_nil _ _ _ _ _, qb2 HB.out GE350.out GE351.out⟩
        ·rw [if_neg c19] at H
         have c19b0 : decide (x25_1 < (t353.length : Int)) = false := decide_eq_false c19; clear c19; have H' := vA H; clear H
         go_wp2
         go_meet
         case rel => exact ⟨_, (x351000_1), (x351002_1), (t352), (x352001_1), (t356), (u352001), H', ⟨by have := HK1.out; first | omega | exact Nat.le_refl _⟩, ⟨qr HO_352001.out⟩, ⟨qk BK350.out⟩, ⟨qk BK351.out⟩, ⟨qb2 HB.out GE350.out GE351.out⟩⟩
     ·rw [if_neg c13] at H
      have c13b0 : ((bt a0 0) == 100) = false := beq_eq_false_iff_ne.mpr c13; have c13b1 : ((bt a0 0) != 100) = true := bne_iff_ne.mpr c13
      (first | rw [c13b0] | (simp only [i64_w, i32_w]; rw [c13b0]) | skip)
      have H' := vA H; clear H
      go_wp2
      go_meet
      case rel => exact ⟨_, (false), ((⟨#[]⟩ : ByteArray)), (false), (([] : List (S69))), (a0.extract 1 a0.size), (.slice none 0 0), H', ⟨by first | omega | exact Nat.le_refl _⟩, ⟨by first | exact Kd.R_nil _ _ _ _ _ | exact Kd.N_nil _ _ _ _ _ | exact Kd.V_nil _ _ _ _ _ | exact Kd.Q_nil _ _ _ _ _ | exact Kd.S_nil _ _ _ _ _⟩, ⟨by refine qK ?_; refine blk_far ?_ NB350_351.out _; refine qK ?_; refine blk_far ?_ NB350_351.out _; refine qK ?_; refine blk_far ?_ NB350_351.out _; refine qK ?_; exact BK350.out⟩, ⟨by refine qK ?_; refine blk_put (cs := #[.bool false, .slice none 0 0, .string (⟨#[]⟩ : ByteArray)]) ?_ 2 _ rfl; refine qK ?_; refine blk_put (cs := #[.bool false, .slice none 0 0, .string (⟨#[]⟩ : ByteArray)]) ?_ 1 _ rfl; refine qK ?_; refine blk_put (cs := #[.bool false, .slice none 0 0, .string (⟨#[]⟩ : ByteArray)]) ?_ 0 _ rfl; refine qK ?_; exact BK351.out⟩, ⟨qb2 HB.out GE350.out GE351.out⟩⟩
    case rest =>
     clear HC8
     (try clear c1); (try clear c2); (try clear c2b0); (try clear c2b1); (try clear p2); (try clear q2); (try clear hx2); (try clear hf2); (try clear c3); (try clear c4); (try clear c5); (try clear c5b0); (try clear c5b1); (try clear c6); (try clear c6b0); (try clear c6b1); (try clear p6); (try clear p7); (try clear q7); (try clear hx7); (try clear qi7); (try clear c10); (try clear c11); (try clear c13); (try clear c13b0); (try clear c13b1); (try clear c16); (try clear c19); (try clear c19b0); (try clear c21); (try clear c22); (try clear c22b0); (try clear c23); (try clear c23b0); (try clear p24); (try clear q24); (try clear hx24); (try clear c25); (try clear c25b0); (try clear c26); (try clear c26b0); (try clear c27); (try clear p27); (try clear q27); (try clear hx27); (try clear hf27); (try clear c29); (try clear c30); (try clear hcz12_0); (try clear hcz12_1); (try clear hcz12_2); (try clear hcz17_0); (try clear hcz17_1); (try clear hcz17_2); (try clear hcz31_0); (try clear hcz31_1); (try clear hcz31_2); (try clear hcz4_0); (try clear hcz4_1); (try clear hcz4_2); (try clear hfz12_0); (try clear hfz12_1); (try clear hfz12_2); (try clear hfz17_0); (try clear hfz17_1); (try clear hfz17_2); (try clear hfz31_0); (try clear hfz31_1); (try clear hfz31_2); (try clear hfz4_0); (try clear hfz4_1); (try clear hfz4_2); (try clear hx27_0); (try clear hx27_1); (try clear p2); (try clear p24); (try clear p27); (try clear p7); (try clear q24); (try clear q27); (try clear q7)
     obtain ⟨kq, x351000_7, x351002_7, x352000_7, x352001_7, x352002_7, u352001, HA, HJ7, HO_352001, BK350, BK351, HB⟩ := hcut
     cases kq with
     | zero => exact absurd HA.out (by simp [impl_ReadBlock.j1])
     | succ kj7 =>
      have H := HA.out; clear HA
      simp only [impl_ReadBlock.j1] at H
      replace H := Option.bind_eq_some_iff.mp H; obtain ⟨⟨t361, t362⟩, A320, H⟩ := H
      dsimp only at H
      have A32 := vA A320; clear A320
      by_cases c33 : t362 = true
      ·subst c33
       rw [if_pos rfl] at H
       by_cases c34 : t361.toList = a0.toList
       ·rw [if_pos c34] at H
        have c34b0 : (t361.toList == a0.toList) = true := beq_iff_eq.mpr c34; have c34b1 : (t361.toList != a0.toList) = false := bne_eq_false_iff_eq.mpr c34; clear c34
        simp only [Option.some.injEq, Prod.mk.injEq] at H
        obtain ⟨rfl, rfl, rfl, rfl⟩ := H; have hnb35 := NB351_350.out; have hnc35 := NB350_351.out; obtain ⟨hcz36_0, hcz36_1, hcz36_2⟩ := v3c BK351.out; obtain ⟨hfz36_0, hfz36_1, hfz36_2⟩ := v3f BK351.out; obtain ⟨Ao37, co37, eo37⟩ := Kd.R_slice HO_352001.out; subst eo37
        go_wp2_with (first | ((with_reducible refine gate_callee (f := 43) rfl ?_); refine goesL_ (some 53) rfl rfl Try.func43 (by kernel_rfl) rfl #[.agg #[.bool x352000_7, .slice Ao37 x352001_7.length co37, .string x352002_7]] rfl qm ?_; (with_reducible refine (impl_BlockText.calls kj7 x352000_7 _ _ x352001_7 x352002_7 t361 true _ (vd (Kd.R_reads' HO_352001.out).2.2) ((Kd.R_reads' HO_352001.out).2.1) A32.out).mono ?_); rintro e w38 ⟨rfl, hb⟩; refine ⟨_, rfl, ?_⟩; replace HO_352001 := vrb HO_352001 hb; replace BK350 := vw BK350 hb; replace BK351 := vw BK351 hb; replace HB := vbs HB hb; clear hb; obtain ⟨hcz39_0, hcz39_1, hcz39_2⟩ := v3c BK351.out; obtain ⟨hfz39_0, hfz39_1, hfz39_2⟩ := v3f BK351.out; obtain ⟨hcz40_0, hcz40_1, hcz40_2⟩ := v3c BK350.out; obtain ⟨hfz40_0, hfz40_1, hfz40_2⟩ := v3f BK350.out))
        refine bodyPost_ret (results_ct rfl _ _ gb350 59 #[.bool x352000_7, .slice Ao37 x352001_7.length co37, .string x352002_7] (0, 0) _ rfl (blk_put (blk_put (blk_put BK350.out 0 _ rfl) 1 _ rfl) 2 _ rfl) Try.underlying59 rfl (by kernel_rfl)) rfl ?_
        exact ⟨_, qe, by refine qR ?_; exact Kd.R_mono (Kd.R_far (p := ⟨gb350, 2, none⟩) (Kd.R_far (p := ⟨gb350, 1, none⟩) (Kd.R_far (p := ⟨gb350, 0, none⟩) (Kd.R_types HO_352001.out BK350.out (by decide)) (fun _ hk => hk.2) (.bool x352000_7)) (fun _ hk => hk.2) (.slice Ao37 x352001_7.length co37)) (fun _ hk => hk.2) (.string x352002_7)) (fun _ hk => trivial), qb2 HB.out GE350.out GE351.out⟩
       ·rw [if_neg c34] at H
        have c34b0 : (t361.toList == a0.toList) = false := beq_eq_false_iff_ne.mpr c34; have c34b1 : (t361.toList != a0.toList) = true := bne_iff_ne.mpr c34
        simp only [Option.some.injEq, Prod.mk.injEq] at H
        obtain ⟨rfl, rfl, rfl, rfl⟩ := H; have hnb41 := NB351_350.out; have hnc41 := NB350_351.out; obtain ⟨hcz42_0, hcz42_1, hcz42_2⟩ := v3c BK351.out; obtain ⟨hfz42_0, hfz42_1, hfz42_2⟩ := v3f BK351.out; obtain ⟨Ao43, co43, eo43⟩ := Kd.R_slice HO_352001.out; subst eo43
        go_wp2_with (first | ((with_reducible refine gate_callee (f := 43) rfl ?_); refine goesL_ (some 53) rfl rfl Try.func43 (by kernel_rfl) rfl #[.agg #[.bool x352000_7, .slice Ao43 x352001_7.length co43, .string x352002_7]] rfl qm ?_; (with_reducible refine (impl_BlockText.calls kj7 x352000_7 _ _ x352001_7 x352002_7 t361 true _ (vd (Kd.R_reads' HO_352001.out).2.2) ((Kd.R_reads' HO_352001.out).2.1) A32.out).mono ?_); rintro e w44 ⟨rfl, hb⟩; refine ⟨_, rfl, ?_⟩; replace HO_352001 := vrb HO_352001 hb; replace BK350 := vw BK350 hb; replace BK351 := vw BK351 hb; replace HB := vbs HB hb; clear hb; obtain ⟨hcz45_0, hcz45_1, hcz45_2⟩ := v3c BK350.out; obtain ⟨hfz45_0, hfz45_1, hfz45_2⟩ := v3f BK350.out))
        refine bodyPost_ret (results_ct rfl _ _ gb350 59 #[.bool false, .slice none 0 0, .string (⟨#[]⟩ : ByteArray)] (0, 0) _ rfl (blk_put (blk_put (blk_put BK350.out 0 _ rfl) 1 _ rfl) 2 _ rfl) Try.underlying59 rfl (by kernel_rfl)) rfl ?_
        exact ⟨_, qe, by first | exact Kd.R_nil _ _ _ _ _ | exact Kd.N_nil _ _ _ _ _ | exact Kd.V_nil _ _ _ _ _ | exact Kd.Q_nil _ _ _ _ _ | exact Kd.S_nil _ _ _ _ _, qb2 HB.out GE350.out GE351.out⟩
      ·replace c33 := Bool.eq_false_iff.mpr c33
       subst c33
       rw [if_neg (show ¬ (false = true) by decide)] at H
       simp only [Option.some.injEq, Prod.mk.injEq] at H
       obtain ⟨rfl, rfl, rfl, rfl⟩ := H; have hnb46 := NB351_350.out; have hnc46 := NB350_351.out; obtain ⟨hcz47_0, hcz47_1, hcz47_2⟩ := v3c BK351.out; obtain ⟨hfz47_0, hfz47_1, hfz47_2⟩ := v3f BK351.out; obtain ⟨Ao48, co48, eo48⟩ := Kd.R_slice HO_352001.out; subst eo48
       go_wp2_with (first | ((with_reducible refine gate_callee (f := 43) rfl ?_); refine goesL_ (some 53) rfl rfl Try.func43 (by kernel_rfl) rfl #[.agg #[.bool x352000_7, .slice Ao48 x352001_7.length co48, .string x352002_7]] rfl qm ?_; (with_reducible refine (impl_BlockText.calls kj7 x352000_7 _ _ x352001_7 x352002_7 t361 false _ (vd (Kd.R_reads' HO_352001.out).2.2) ((Kd.R_reads' HO_352001.out).2.1) A32.out).mono ?_); rintro e w49 ⟨rfl, hb⟩; refine ⟨_, rfl, ?_⟩; replace HO_352001 := vrb HO_352001 hb; replace BK350 := vw BK350 hb; replace BK351 := vw BK351 hb; replace HB := vbs HB hb; clear hb; obtain ⟨hcz50_0, hcz50_1, hcz50_2⟩ := v3c BK350.out; obtain ⟨hfz50_0, hfz50_1, hfz50_2⟩ := v3f BK350.out))
       refine bodyPost_ret (results_ct rfl _ _ gb350 59 #[.bool false, .slice none 0 0, .string (⟨#[]⟩ : ByteArray)] (0, 0) _ rfl (blk_put (blk_put (blk_put BK350.out 0 _ rfl) 1 _ rfl) 2 _ rfl) Try.underlying59 rfl (by kernel_rfl)) rfl ?_
       exact ⟨_, qe, by first | exact Kd.R_nil _ _ _ _ _ | exact Kd.N_nil _ _ _ _ _ | exact Kd.V_nil _ _ _ _ _ | exact Kd.Q_nil _ _ _ _ _ | exact Kd.S_nil _ _ _ _ _, qb2 HB.out GE350.out GE351.out⟩
   ·rw [if_neg c6] at H
    exact absurd H (by simp)
  ·rw [if_neg c5] at H
   exact absurd H (by simp)

/-! ### impl_DeviceOk: function 80 -/
def impl_DeviceOk.l0 : Nat → List ByteArray → Int → Int → List ByteArray → Option (Bool)
 | 0, _, _, _, _ => none
 | k + 1, x6, x7, x8, x364000 => if x8 < x7 then (if 0 ≤ x8 then (if x8 < (x6.length : Int) then (if ((rdOf ByteArray.empty x6 x8).size : Int) > 60 then (some false) else (impl_DeviceOk.l0 k x6 x7 (wrap64 (x8 + 1)) x364000)) else (none)) else (none)) else (some ((x364000.length : Int) == 21))
def impl_DeviceOk.f (k : Nat) (l0_0 : List ByteArray) : Option (Bool) := impl_DeviceOk.l0 k l0_0 (l0_0.length : Int) 0 l0_0
set_option maxHeartbeats 8000000 in
set_option maxRecDepth 100000 in
theorem impl_DeviceOk.calls (k : Nat) (A0_0 : Option Addr) (c0_0 : Nat) (l0_0 : List ByteArray) (r : Bool) (w : World) (hr0_0 : Kd.C Kd.string w A0_0 l0_0.length l0_0) (hc0_0 : l0_0.length ≤ c0_0) (h : impl_DeviceOk.f k l0_0 = some r) :
  Calls Try.prog 80 #[.agg #[.slice A0_0 l0_0.length c0_0]] w fun e w' => e = .returned (.bool r) ∧ Below w.heap.size w w' := by
 have hu32 := Try.underlying32
 have HR0_0 := vA hr0_0
 have HC0_0 := vA hc0_0
 clear hr0_0 hc0_0
 have HB := vA (Below.refl w.heap.size w)
 have H : (impl_DeviceOk.l0 k l0_0 (l0_0.length : Int) 0 l0_0) = some r := h
 clear h
 have H' := vA H
 clear H
 go_enter Try.func80, Try.ntmps80
 go_wp2_with (first | ((with_reducible refine gate_dst (N := 1) rfl ?_); refine vx (N := 1) (cs := #[.slice A0_0 l0_0.length c0_0]) (t := 32) ?_; intro gb363 hg w2 hbox hb; have BK363 := vA (hbox); have GW363 := vA ((vg hg (qb HB.out))); have GE363 := GW363; replace HB := vbs HB hb; clear hb hbox hg; have hcz3_0 := v1c BK363.out; have hfz3_0 := blk_frozen BK363.out 0))
 go_loopg [8] k (fun kq v8 w' => ∃ (x8_1 : Int), v8 = .int .i64 x8_1 ∧ Aside0 (impl_DeviceOk.l0 kq l0_0 (l0_0.length : Int) x8_1 l0_0 = some r) ∧ Aside0 (kq ≤ k) ∧ Aside0 (w'.heap[gb363]? = some (.cells #[(.slice A0_0 l0_0.length c0_0)] 32 (0, 0))) ∧ Aside0 (Below w.heap.size w w'))
 case atStart => exact ⟨(0), qz, H', ⟨Nat.le_refl _⟩, ⟨qk BK363.out⟩, ⟨qb1 HB.out GE363.out⟩⟩
 case round =>
  clear H'
  (try clear p2); (try clear hcz3_0); (try clear hfz3_0)
  obtain ⟨x8_1, rfl, HA, HK1, BK363, HB⟩ := hrel
  cases gk with
  | zero => exact absurd HA.out (by simp [impl_DeviceOk.l0])
  | succ k1 =>
   have H := HA.out; clear HA
   simp only [impl_DeviceOk.l0] at H
   by_cases c4 : x8_1 < (l0_0.length : Int)
   ·rw [if_pos c4] at H
    have c4b0 : decide (x8_1 < (l0_0.length : Int)) = true := decide_eq_true c4; clear c4
    by_cases c5 : 0 ≤ x8_1
    ·rw [if_pos c5] at H
     have c5b0 : decide (0 ≤ x8_1) = true := decide_eq_true c5; clear c5
     by_cases c6 : x8_1 < (l0_0.length : Int)
     ·rw [if_pos c6] at H
      have c6b0 : decide (x8_1 < (l0_0.length : Int)) = true := decide_eq_true c6; clear c6
      by_cases c7 : ((rdOf ByteArray.empty l0_0 x8_1).size : Int) > 60
      ·rw [if_pos c7] at H
       have c7b0 : decide (60 < ((rdOf ByteArray.empty l0_0 x8_1).size : Int)) = true := decide_eq_true c7
       have c7b1 : decide (60 < (rdOf ByteArray.empty l0_0 x8_1).size) = true := decide_eq_true (by omega)
       clear c7; obtain rfl := Option.some.inj H; have p364 : 0 ≤ (x8_1 : Int) := qo; have q364 : x8_1 < (l0_0.length : Int) := qo; obtain ⟨ad364, e364, hx364_0⟩ := Kd.at_string HR0_0.out x8_1 p364 q364
       cases e364
       replace hx364_0 := qc HB.out hx364_0; replace p364 := eq_true p364; replace q364 := eq_true q364
       go_wp2
       go_ret
       exact ⟨qe, qb1 HB.out GE363.out⟩
      ·rw [if_neg c7] at H
       have c7b0 : decide (60 < ((rdOf ByteArray.empty l0_0 x8_1).size : Int)) = false := decide_eq_false c7
       have c7b1 : decide (60 < (rdOf ByteArray.empty l0_0 x8_1).size) = false := decide_eq_false (by omega)
       clear c7; have H' := vA H; clear H; have p364 : 0 ≤ (x8_1 : Int) := qo; have q364 : x8_1 < (l0_0.length : Int) := qo; obtain ⟨ad364, e364, hx364_0⟩ := Kd.at_string HR0_0.out x8_1 p364 q364
       cases e364
       replace hx364_0 := qc HB.out hx364_0; replace p364 := eq_true p364; replace q364 := eq_true q364
       go_wp2
       go_roundg k1
       case measure => have := HK1.out; omega
       case rel => exact ⟨(wrap64 (x8_1 + 1)), qz, H', ⟨by have := HK1.out; omega⟩, ⟨qk BK363.out⟩, ⟨qb1 HB.out GE363.out⟩⟩
     ·rw [if_neg c6] at H
      exact absurd H (by simp)
    ·rw [if_neg c5] at H
     exact absurd H (by simp)
   ·rw [if_neg c4] at H
    have c4b0 : decide (x8_1 < (l0_0.length : Int)) = false := decide_eq_false c4; clear c4; obtain rfl := Option.some.inj H; have hcz8_0 := v1c BK363.out; have hfz8_0 := blk_frozen BK363.out 0
    go_wp2
    go_ret
    exact ⟨qe, qb1 HB.out GE363.out⟩

/-! ### impl_unpacked: function 135 -/
def impl_unpacked.l0 : Nat → Int → List Bool → Int → Option (List Bool)
 | 0, _, _, _ => none
 | k + 1, x0, x3, x6 => if x6 < 8 then (if 0 ≤ x6 then (if x3.length < 140737488355328 then (impl_unpacked.l0 k x0 (x3 ++ [((Go.bits .and .u8 (shr .u8 x0 x6) 1) == 1)]) (wrap64 (x6 + 1))) else (none)) else (none)) else (some x3)
def impl_unpacked.f (k : Nat) (a0 : Int) : Option (List Bool) := impl_unpacked.l0 k a0 (([] : List Bool)) 0
theorem impl_unpacked.mono_l : ∀ k, (∀ y0 y1 y2, LeO (impl_unpacked.l0 k y0 y1 y2) (impl_unpacked.l0 (k + 1) y0 y1 y2))
 | 0 => fun _ _ _ r h => by simp [impl_unpacked.l0] at h
 | k + 1 => by
  have ih0 := impl_unpacked.mono_l k
  ·intro y0 y1 y2
   unfold impl_unpacked.l0
   repeat' first
   | (with_reducible exact ih0 _ _ _)
   | with_reducible first | exact LeO.refl _ | exact LeO.none _ | refine LeO.ite ?_ ?_ | refine LeO.bind ?_ (fun _ => ?_)
   | exact ih0 _ _ _
   | exact LeO.none _
   | refine LeO.ite ?_ ?_
   | refine LeO.bind ?_ (fun _ => ?_)
theorem impl_unpacked.mono : ∀ a0 k, LeO (impl_unpacked.f k a0) (impl_unpacked.f (k + 1) a0) := by
 intro a0 k
 have ih0 := impl_unpacked.mono_l k
 unfold impl_unpacked.f
 repeat' first
   | (with_reducible exact ih0 _ _ _)
   | with_reducible first | exact LeO.refl _ | exact LeO.none _ | refine LeO.ite ?_ ?_ | refine LeO.bind ?_ (fun _ => ?_)
   | exact ih0 _ _ _
   | exact LeO.none _
   | refine LeO.ite ?_ ?_
   | refine LeO.bind ?_ (fun _ => ?_)
set_option maxHeartbeats 8000000 in
set_option maxRecDepth 100000 in
theorem impl_unpacked.calls (k : Nat) (a0 : Int) (r : List Bool) (w : World) (h : impl_unpacked.f k a0 = some r) :
  Calls Try.prog 135 #[.int .u8 a0] w fun e w' => ∃ v0_ : Value, e = .returned (v0_) ∧ Kd.R Kd.bool 4 w' w.heap.size (fun _ => True) v0_ r ∧ Below w.heap.size w w' := by
 have HB := vA (Below.refl w.heap.size w)
 have H : (impl_unpacked.l0 k a0 (([] : List Bool)) 0) = some r := h
 clear h
 obtain ⟨y365, hy365⟩ : ∃ y_ : List Bool, y_ = (([] : List Bool)) := ⟨_, rfl⟩
 first | rw [Option.bind_some, ← hy365] at H | rw [← hy365] at H
 have Ny365 := vA hy365
 clear hy365
 have H' := vA H
 clear H
 go_enter Try.func135, Try.ntmps135
 go_wp2_with (first | ((with_reducible refine gate_dst (N := 5) rfl ?_); refine Kd.R_lit Kd.bool _ 4 ?hg (N := 5) ?hd (xs := ([] : List Bool)) (inner := []) (ok := fun _ => True) (okp := fun _ => True) ?hr ?hp (fun _ hk => hk) trivial (Below.refl _ _) (Nat.le_refl _) (by simp) ?_; (case hd => rfl); (case hg => rfl); (case hr => first | (go_simp; done) | (go_simp; rfl)); (case hp => exact (Reps.none _ _)); intro v366 w2 ho3 hb hg_ hnew_; clear hg_ hnew_; (first | rw [← Ny365.out] at ho3 | (simp only [Int.reduceToNat] at ho3; rw [← Ny365.out] at ho3)); have HO367 := vA (Kd.R_lower ho3 (below_size (qb HB.out))); replace HB := vbs HB hb; clear hb ho3))
 go_loopg [3, 6] k (fun kq v3 v6 w' => ∃ (x3_1 : List Bool) (x6_1 : Int), v6 = .int .i64 x6_1 ∧ Aside0 (impl_unpacked.l0 kq a0 x3_1 x6_1 = some r) ∧ Aside0 (kq ≤ k) ∧ Aside0 (Kd.R Kd.bool 4 w' w.heap.size (fun _ => True) v3 x3_1) ∧ Aside0 (Below w.heap.size w w'))
 case atStart => exact ⟨(y365), (0), qz, H', ⟨Nat.le_refl _⟩, ⟨qr HO367.out⟩, ⟨qb HB.out⟩⟩
 case round =>
  clear H'
  (try clear c1); (try clear p2)
  obtain ⟨x3_1, x6_1, rfl, HA, HK1, HO_3, HB⟩ := hrel
  cases gk with
  | zero => exact absurd HA.out (by simp [impl_unpacked.l0])
  | succ k1 =>
   have H := HA.out; clear HA
   simp only [impl_unpacked.l0] at H
   by_cases c4 : x6_1 < 8
   ·rw [if_pos c4] at H
    have c4b0 : decide (x6_1 < 8) = true := decide_eq_true c4; clear c4
    by_cases c5 : 0 ≤ x6_1
    ·rw [if_pos c5] at H
     have c5b0 := eq_true c5; have c5b1 : decide (0 ≤ x6_1) = true := decide_eq_true c5; clear c5; obtain ⟨ji6, hji6⟩ : ∃ j_ : Int, (shr .u8 a0 x6_1) = j_ := ⟨_, rfl⟩
     replace H : (if x3_1.length < 140737488355328 then (impl_unpacked.l0 k1 a0 (x3_1 ++ [((Go.bits .and .u8 (ji6) 1) == 1)]) (wrap64 (x6_1 + 1))) else (none)) = some r := by first | (rw [hji6] at H; exact H) | (simp only [hji6] at H ⊢; exact H)
     have hji6_ : (a0 / 2 ^ min x6_1.toNat 8) = ji6 := hji6; have hji6z : x6_1 ≤ 8 → (a0 / 2 ^ x6_1.toNat) = ji6 := shr_small hji6
     by_cases c7 : x3_1.length < 140737488355328
     ·rw [if_pos c7] at H
      have LMc7 := vA c7; clear c7; obtain ⟨y368, hy368⟩ : ∃ y_ : List Bool, y_ = (x3_1 ++ [((Go.bits .and .u8 (ji6) 1) == 1)]) := ⟨_, rfl⟩
      first | rw [Option.bind_some, ← hy368] at H | rw [← hy368] at H
      have Ny368 := vA hy368; clear hy368; have H' := vA H; clear H
      go_wp2_with (first | ((with_reducible refine gate_builtin (b := .append) (xs := #[.tmp 9, .tmp 15]) rfl ?_); at_builtin; refine Kd.R_append Kd.bool (w0 := w) w.heap.size rfl (.tmp 9) (.tmp 15) 22 4 (.bool false) 1 rfl Try.underlying22 info4 rfl (by decide) (by omega) u3 x3_1 ((Go.bits .and .u8 (ji6) 1) == 1) [.bool ((Go.bits .and .u8 (ji6) 1) == 1)] (fun _ => True) (fun _ => False) rfl rfl ?aP (fun _ hk => hk.elim) ?aF ?aO ?aB ?aS ?aL ?_; (case aP => exact rfl); (case aB => exact (qb HB.out)); (case aF => exact (fun _ _ => trivial)); (case aO => exact (qr HO_3.out)); (case aS => exact (below_size (qb HB.out))); (case aL => have := LMc7.out; omega); intro v369 w8 ho hb hg hat; rw [← Ny368.out] at ho; replace HB := vA (hb); have HO370 := vA (ho); clear HO_3 ho hb hg hat))
      go_roundg k1
      case measure => have := HK1.out; omega
      case rel => exact ⟨(y368), (wrap64 (x6_1 + 1)), qz, H', ⟨by have := HK1.out; omega⟩, ⟨qr HO370.out⟩, ⟨qb HB.out⟩⟩
     ·rw [if_neg c7] at H
      exact absurd H (by simp)
    ·rw [if_neg c5] at H
     exact absurd H (by simp)
   ·rw [if_neg c4] at H
    have c4b0 : decide (x6_1 < 8) = false := decide_eq_false c4; clear c4; obtain rfl := Option.some.inj H
    go_wp2
    go_ret
    exact ⟨_, qe, qr HO_3.out, qb HB.out⟩

end Go.Proofs.Ytdnbpapolckklaa.PFnExactDiskOf
