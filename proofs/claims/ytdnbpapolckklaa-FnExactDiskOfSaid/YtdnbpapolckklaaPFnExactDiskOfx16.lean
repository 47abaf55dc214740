-- Written by a program of this session (a changed copy of the kit's print: wip/print2). Lean checks it.
import Derived.Test.YtdnbpapolckklaaPax
import Derived.Test.YtdnbpapolckklaaPFnExactDiskOfx0
import Derived.Test.YtdnbpapolckklaaPFnExactDiskOfx1
namespace Go.Proofs.Ytdnbpapolckklaa.PFnExactDiskOf
open Go.RowKit Go.Proofs.YtdnbpapolckklaaW.PrintWords Go.Proofs.YtdnbpapolckklaaW.PrintLast Go.Proofs.YtdnbpapolckklaaW.PrintMore
attribute [local go_sem] max2_int min2_int max_two min_two max_three min_three max_four min_four   -- for this text's walks alone
attribute [local go_sem] Go.Proofs.Ytdnbpapolckklaa.Pad.isSome_setCell
set_option linter.unusedVariables false
set_option linter.unusedSimpArgs false

attribute [local go_sem high] eqA69
/-! ### laws_toStringS: function 79 -/
def laws_toStringS.l0 : Nat → List ByteArray → List ByteArray → Int → Option (List ByteArray)
 | 0, _, _, _ => none
 | k + 1, x0, x3, x4 => if x4 < (x0.length : Int) then (if 0 ≤ x4 then (if x4 < (x3.length : Int) then (laws_toStringS.l0 k x0 (x3.set (x4 : Int).toNat (rdOf ByteArray.empty x0 x4)) (wrap64 (x4 + 1))) else (none)) else (none)) else (some x3)
def laws_toStringS.f (k : Nat) (l0 : List ByteArray) : Option (List ByteArray) := if 0 ≤ (l0.length : Int) then (if ((l0.length : Int) : Int).toNat ≤ 17592186044416 then (laws_toStringS.l0 k l0 (List.replicate ((l0.length : Int) : Int).toNat (⟨#[]⟩ : ByteArray)) 0) else (none)) else (none)
set_option maxHeartbeats 8000000 in
set_option maxRecDepth 100000 in
theorem laws_toStringS.calls (k : Nat) (A0 : Option Addr) (c0 : Nat) (l0 : List ByteArray) (r : List ByteArray) (w : World) (hr0 : Kd.C Kd.string w A0 l0.length l0) (hc0 : l0.length ≤ c0) (h : laws_toStringS.f k l0 = some r) :
  Calls Try.prog 79 #[.slice A0 l0.length c0] w fun e w' => ∃ v0_ : Value, e = .returned (v0_) ∧ Kd.R Kd.string 9 w' w.heap.size (fun _ => True) v0_ r ∧ Below w.heap.size w w' := by
 have HR0 := vA hr0
 have HC0 := vA hc0
 clear hr0 hc0
 have HB := vA (Below.refl w.heap.size w)
 have H : (if 0 ≤ (l0.length : Int) then (if ((l0.length : Int) : Int).toNat ≤ 17592186044416 then (laws_toStringS.l0 k l0 (List.replicate ((l0.length : Int) : Int).toNat (⟨#[]⟩ : ByteArray)) 0) else (none)) else (none)) = some r := h
 clear h
 by_cases c2 : 0 ≤ (l0.length : Int)
 ·rw [if_pos c2] at H
  have c2b0 := eq_true c2; have c2b1 : decide (0 ≤ (l0.length : Int)) = true := decide_eq_true c2; clear c2
  by_cases c3 : ((l0.length : Int) : Int).toNat ≤ 17592186044416
  ·rw [if_pos c3] at H
   have c3b0 := eq_true c3; have c3b1 : decide (((l0.length : Int) : Int).toNat ≤ 17592186044416) = true := decide_eq_true c3; clear c3; obtain ⟨y292, hy292⟩ : ∃ y_ : List ByteArray, y_ = (List.replicate ((l0.length : Int) : Int).toNat (⟨#[]⟩ : ByteArray)) := ⟨_, rfl⟩
   first | rw [Option.bind_some, ← hy292] at H | rw [← hy292] at H
   have Ny292 := vA hy292; clear hy292; have H' := vA H; clear H
   go_enter Try.func79, Try.ntmps79
   go_wp2_with (first | ((with_reducible refine gate_dst (N := 7) rfl ?_); refine Kd.R_make Kd.string _ 9 rfl (N := 7) rfl 30 _ _ rfl (l0.length : Int) rfl rfl Try.underlying30 (.string ⟨#[]⟩) 16 info9 rfl (by decide) (by omega) (⟨#[]⟩ : ByteArray) (ok := fun _ => True) (okp := fun _ => True) rfl (fun _ hk => hk) trivial qo (Nat.le_trans (Nat.mul_le_mul_right _ (qo : (l0.length : Int).toNat ≤ 17592186044416)) (by omega)) (Below.refl _ _) (Nat.le_refl _) ?_; intro v293 w4 ho5 hb hg_ hnew_; clear hg_ hnew_; (first | rw [← Ny292.out] at ho5 | (simp only [Int.reduceToNat] at ho5; rw [← Ny292.out] at ho5)); have HO294 := vA (Kd.R_lower ho5 (below_size (qb HB.out))); replace HB := vbs HB hb; clear hb ho5))
   go_loopg [4] k (fun kq v4 w' => ∃ (x3_1 : List ByteArray) (x4_1 : Int), v4 = .int .i64 x4_1 ∧ Aside0 (laws_toStringS.l0 kq l0 x3_1 x4_1 = some r) ∧ Aside0 (kq ≤ k) ∧ Aside0 (Kd.R Kd.string 9 w' w.heap.size (fun _ => True) v293 x3_1) ∧ Aside0 (Below w.heap.size w w'))
   case atStart => exact ⟨(y292), (0), qz, H', ⟨Nat.le_refl _⟩, ⟨qr HO294.out⟩, ⟨qb HB.out⟩⟩
   case round =>
    clear H'
    (try clear c2); (try clear c2b0); (try clear c2b1); (try clear p2); (try clear c3); (try clear c3b0); (try clear c3b1)
    obtain ⟨x3_1, x4_1, rfl, HA, HK1, HO_3, HB⟩ := hrel
    cases gk with
    | zero => exact absurd HA.out (by simp [laws_toStringS.l0])
    | succ k1 =>
     have H := HA.out; clear HA
     simp only [laws_toStringS.l0] at H
     by_cases c6 : x4_1 < (l0.length : Int)
     ·rw [if_pos c6] at H
      have c6b0 : decide (x4_1 < (l0.length : Int)) = true := decide_eq_true c6; clear c6
      by_cases c7 : 0 ≤ x4_1
      ·rw [if_pos c7] at H
       have c7b0 : decide (0 ≤ x4_1) = true := decide_eq_true c7; clear c7
       by_cases c8 : x4_1 < (x3_1.length : Int)
       ·rw [if_pos c8] at H
        have c8b0 : decide (x4_1 < (x3_1.length : Int)) = true := decide_eq_true c8; clear c8; obtain ⟨y296, hy296⟩ : ∃ y_ : List ByteArray, y_ = (x3_1.set (x4_1 : Int).toNat (rdOf ByteArray.empty l0 x4_1)) := ⟨_, rfl⟩
        first | rw [Option.bind_some, ← hy296] at H | rw [← hy296] at H
        have Ny296 := vA hy296; clear hy296; have H' := vA H; clear H; have p295 : 0 ≤ (x4_1 : Int) := qo; have q295 : x4_1 < (l0.length : Int) := qo; obtain ⟨ad295, e295, hx295_0⟩ := Kd.at_string HR0.out x4_1 p295 q295
        cases e295
        replace hx295_0 := qc HB.out hx295_0; replace p295 := eq_true p295; replace q295 := eq_true q295; have p9 : 0 ≤ (x4_1 : Int) := qo; have q9 : (x4_1 : Int) < ((x3_1.length : Int) : Int) := qo
        obtain ⟨go9, co9, eo9, gb9, gl9, cl9, HG9⟩ := Kd.R_form HO_3.out (by omega)
        (first | cases eo9 | (injection eo9 with ea_ en_ ec_; (first | subst ea_ | (injection ea_ with ea_; subst ea_)); subst ec_; clear en_))
        have GB9 := vA gb9; have GG9 := vA HG9; clear gb9 gl9 HG9; obtain ⟨hx9_0, hf9_0⟩ := Kd.R_celln (⟨#[]⟩ : ByteArray) HO_3.out (x4_1 : Int) p9 q9; replace p9 := eq_true p9; replace q9 := eq_true q9; have HP10 := Kd.R_putg HO_3.out (x4_1 : Int) (rdOf ByteArray.empty l0 x4_1)
        go_wp2_with (first | ((with_reducible refine gate_store (t := 9) (p := 20) rfl ?_); refine store_event (t := 9) (p := 20) (v := ?vo_w11) (w1 := (wr.setCell ⟨go9, (x4_1 : Int).toNat, none⟩ (.string (rdOf ByteArray.empty l0 x4_1)))) ?hg ?ho ?hn ?hr ?_; (case ho => rfl); (case hg => rfl); (case hn => rfl); (case hr => first | (go_simp; done) | (go_simp; rfl)); intro w11 hw; have hg : wr.grownBy w11 (some go9) := (by rw [hw]; exact HP10.2); have hp_ : Kd.R Kd.string 9 w11 w.heap.size (fun _ => True) (.slice (some ⟨go9, 0, none⟩) x3_1.length co9) y296 := (by rw [hw, Ny296.out]; exact HP10.1); clear HP10; replace HO_3 := vA (hp_); replace HB := vA ((by rw [hw]; exact below_set (HB.out) GB9.out : Below w.heap.size w w11)); clear hg hw hp_))
        go_roundg k1
        case measure => have := HK1.out; omega
        case rel => exact ⟨(y296), (wrap64 (x4_1 + 1)), qz, H', ⟨by have := HK1.out; omega⟩, ⟨qr HO_3.out⟩, ⟨qb HB.out⟩⟩
       ·rw [if_neg c8] at H
        exact absurd H (by simp)
      ·rw [if_neg c7] at H
       exact absurd H (by simp)
     ·rw [if_neg c6] at H
      have c6b0 : decide (x4_1 < (l0.length : Int)) = false := decide_eq_false c6; clear c6; obtain rfl := Option.some.inj H
      go_wp2
      go_ret
      exact ⟨_, qe, qr HO_3.out, qb HB.out⟩
  ·rw [if_neg c3] at H
   exact absurd H (by simp)
 ·rw [if_neg c2] at H
  exact absurd H (by simp)

/-! ### laws_toDevice: function 25 -/
def laws_toDevice.f (k : Nat) (l0_0 : List ByteArray) : Option (List ByteArray) := (laws_toStringS.f k l0_0).bind fun t300 => (some t300)
set_option maxHeartbeats 8000000 in
set_option maxRecDepth 100000 in
theorem laws_toDevice.calls (k : Nat) (A0_0 : Option Addr) (c0_0 : Nat) (l0_0 : List ByteArray) (r : List ByteArray) (w : World) (hr0_0 : Kd.C Kd.string w A0_0 l0_0.length l0_0) (hc0_0 : l0_0.length ≤ c0_0) (h : laws_toDevice.f k l0_0 = some r) :
  Calls Try.prog 25 #[.agg #[.slice A0_0 l0_0.length c0_0]] w fun e w' => ∃ v0_ : Value, e = .returned (.agg #[v0_]) ∧ Kd.R Kd.string 9 w' w.heap.size (fun _ => True) v0_ r ∧ Below w.heap.size w w' := by
 have hu46 := Try.underlying46
 have hu32 := Try.underlying32
 have HR0_0 := vA hr0_0
 have HC0_0 := vA hc0_0
 clear hr0_0 hc0_0
 have HB := vA (Below.refl w.heap.size w)
 have H : ((laws_toStringS.f k l0_0).bind fun t300 => (some t300)) = some r := h
 clear h
 replace H := Option.bind_eq_some_iff.mp H
 obtain ⟨t300, A20, H⟩ := H
 have A2 := vA A20
 clear A20
 obtain rfl := Option.some.inj H
 go_enter Try.func25, Try.ntmps25
 go_wp2_with (first | ((with_reducible refine gate_dst (N := 1) rfl ?_); refine vx (N := 1) (cs := #[.slice A0_0 l0_0.length c0_0]) (t := 46) ?_; intro gb297 hg w3 hbox hb; have BK297 := vA (hbox); have GW297 := vA ((vg hg (qb HB.out))); have GE297 := GW297; replace HB := vbs HB hb; clear hb hbox hg) | ((with_reducible refine gate_dst (N := 2) rfl ?_); refine vx (N := 2) (cs := #[.slice none 0 0]) (t := 32) ?_; intro gb298 hg w4 hbox hb; have BK298 := vA (hbox); have GW298 := vA ((vg hg (vh HB))); have GE298 := GW298; replace HB := vbs HB hb; have NB297_298 := vn hg BK297; have NB298_297 := vN hg BK297; replace BK297 := vw BK297 hb; clear hb hbox hg) | ((with_reducible refine gate_dst (N := 3) rfl ?_); refine vx (N := 3) (cs := #[.slice none 0 0]) (t := 32) ?_; intro gb299 hg w5 hbox hb; have BK299 := vA (hbox); have GW299 := vA ((vg hg (vh HB))); have GE299 := GW299; replace HB := vbs HB hb; have NB297_299 := vn hg BK297; have NB299_297 := vN hg BK297; replace BK297 := vw BK297 hb; have NB298_299 := vn hg BK298; have NB299_298 := vN hg BK298; replace BK298 := vw BK298 hb; clear hb hbox hg; have hnb6 := NB297_298.out; have hnc6 := NB298_297.out; have hnb7 := NB297_299.out; have hnc7 := NB299_297.out; have hcz8_0 := v1c BK297.out; have hfz8_0 := blk_frozen BK297.out 0) | ((with_reducible refine gate_callee (f := 79) rfl ?_); refine goesL_ (some 6) rfl rfl Try.func79 (by kernel_rfl) rfl #[.slice A0_0 l0_0.length c0_0] rfl qm ?_; (with_reducible refine (laws_toStringS.calls k _ _ l0_0 t300 _ (vc HR0_0 HB) HC0_0.out A2.out).mono ?_); rintro e w9 ⟨v301, rfl, ho0, hb⟩; refine ⟨_, rfl, ?_⟩; have HO302 := vA (Kd.R_lower ho0 (below_size (vh HB))); replace BK297 := vw BK297 hb; replace BK298 := vw BK298 hb; replace BK299 := vw BK299 hb; replace HB := vbs HB hb; clear hb ho0; obtain ⟨Ao10, co10, eo10⟩ := Kd.R_slice HO302.out; subst eo10; have hnb11 := NB299_298.out; have hnc11 := NB298_299.out; have hcz12_0 := v1c BK299.out; have hfz12_0 := blk_frozen BK299.out 0; have hcz13_0 := v1c BK298.out; have hfz13_0 := blk_frozen BK298.out 0))
 refine bodyPost_ret (results_cell_row rfl _ _ gb298 32 #[.slice Ao10 t300.length co10] (0, 0) _ rfl (by refine qK ?_; refine blk_put (cs := #[.slice none 0 0]) ?_ 0 _ rfl; refine qK ?_; refine blk_far ?_ NB298_299.out _; refine qK ?_; exact BK298.out) Try.underlying32 rfl (by kernel_rfl)) rfl ?_
 exact ⟨_, qe, by refine qR ?_; exact Kd.R_mono (Kd.R_far (p := ⟨gb298, 0, none⟩) (Kd.R_far (p := ⟨gb299, 0, none⟩) (Kd.R_types (Kd.R_types HO302.out BK299.out (by decide)) BK298.out (by decide)) (fun _ hk => hk.1.2) (.slice Ao10 t300.length co10)) (fun _ hk => hk.2) (.slice Ao10 t300.length co10)) (fun _ hk => trivial), qb3 HB.out GE297.out GE298.out GE299.out⟩

/-! ### impl_DirNew: function 38 -/
def impl_DirNew.f  : Option (Bool × (List (S69)) × ByteArray) := if 4 ≤ 11728124029610 then (some (true, (List.replicate 4 z69), (⟨#[]⟩ : ByteArray))) else (none)
set_option maxHeartbeats 8000000 in
set_option maxRecDepth 100000 in
theorem impl_DirNew.calls  (r1 : Bool) (r2 : List (S69)) (r3 : ByteArray) (w : World) (h : impl_DirNew.f  = some (r1, r2, r3)) :
  Calls Try.prog 38 #[] w fun e w' => ∃ v1_ : Value, e = .returned (.agg #[.bool r1, v1_, .string r3]) ∧ Kd.R k69 69 w' w.heap.size (fun _ => True) v1_ r2 ∧ Below w.heap.size w w' := by
 have hu59 := Try.underlying59
 have HB := vA (Below.refl w.heap.size w)
 have H : (if 4 ≤ 11728124029610 then (some (true, (List.replicate 4 z69), (⟨#[]⟩ : ByteArray))) else (none)) = some (r1, r2, r3) := h
 clear h
 by_cases c1 : 4 ≤ 11728124029610
 ·rw [if_pos c1] at H
  have c1b0 := eq_true c1; have c1b1 : decide (4 ≤ 11728124029610) = true := decide_eq_true c1; clear c1; obtain ⟨y304, hy304⟩ : ∃ y_ : List (S69), y_ = (List.replicate 4 z69) := ⟨_, rfl⟩
  first | rw [Option.bind_some, ← hy304] at H | rw [← hy304] at H
  have Ny304 := vA hy304; clear hy304
  simp only [Option.some.injEq, Prod.mk.injEq] at H
  obtain ⟨rfl, rfl, rfl⟩ := H
  go_enter Try.func38, Try.ntmps38
  go_wp2_with (first | ((with_reducible refine gate_dst (N := 0) rfl ?_); refine vx (N := 0) (cs := #[.bool false, .slice none 0 0, .string (⟨#[]⟩ : ByteArray)]) (t := 59) ?_; intro gb303 hg w2 hbox hb; have BK303 := vA (hbox); have GW303 := vA ((vg hg (qb HB.out))); have GE303 := GW303; replace HB := vbs HB hb; clear hb hbox hg) | ((with_reducible refine gate_dst (N := 1) rfl ?_); refine Kd.R_make k69 _ 69 rfl (N := 1) rfl 57 _ _ rfl 4 rfl rfl Try.underlying57 (.agg #[(.string ⟨#[]⟩), (.int .i64 0)]) 24 info69 rfl (by decide) (by omega) z69 (ok := fun _ => True) (okp := fun _ => True) (k69_mkM _ _ _ z69 ) (fun _ hk => hk) trivial (by omega) (by omega) (Below.refl _ _) (Nat.le_refl _) ?_; intro v305 w3 ho4 hb hg_ hnew_; clear hg_ hnew_; (first | rw [← Ny304.out] at ho4 | (simp only [Int.reduceToNat] at ho4; rw [← Ny304.out] at ho4)); have HO306 := vA (Kd.R_lower ho4 (below_size (vh HB))); replace BK303 := vw BK303 hb; replace HB := vbs HB hb; clear hb ho4; obtain ⟨Ao5, co5, eo5⟩ := Kd.R_slice HO306.out; subst eo5; obtain ⟨hcz6_0, hcz6_1, hcz6_2⟩ := v3c BK303.out; obtain ⟨hfz6_0, hfz6_1, hfz6_2⟩ := v3f BK303.out))
  refine bodyPost_ret (results_cell_row rfl _ _ gb303 59 #[.bool true, .slice Ao5 y304.length co5, .string (⟨#[]⟩ : ByteArray)] (0, 0) _ rfl (blk_put (blk_put (blk_put BK303.out 0 _ rfl) 1 _ rfl) 2 _ rfl) Try.underlying59 rfl (by kernel_rfl)) rfl ?_
  exact ⟨_, qe, by refine qR ?_; exact Kd.R_mono (Kd.R_far (p := ⟨gb303, 2, none⟩) (Kd.R_far (p := ⟨gb303, 1, none⟩) (Kd.R_far (p := ⟨gb303, 0, none⟩) (Kd.R_types HO306.out BK303.out (by decide)) (fun _ hk => hk.2) (.bool true)) (fun _ hk => hk.2) (.slice Ao5 y304.length co5)) (fun _ hk => hk.2) (.string (⟨#[]⟩ : ByteArray))) (fun _ hk => trivial), qb1 HB.out GE303.out⟩
 ·rw [if_neg c1] at H
  exact absurd H (by simp)

-- NOT PRINTED: function 90 (impl_Slot)

/-! ### impl_SlotOf: function 31, by hand (slices.IndexFunc: 90, its closure: 91) -/
/-- The place of the first slot with this name, from i on; -1 without one. -/
def impl_SlotOf.idx (nm : ByteArray) : List S69 → Int → Int
 | [], _ => -1
 | x :: r, i => if x.f0.toList = nm.toList then i else impl_SlotOf.idx nm r (i + 1)
theorem impl_SlotOf.idx_hit (nm : ByteArray) (l : List S69) (k : Nat) (i : Int) (hk : k < l.length) (h : (l.getD k z69).f0.toList = nm.toList) (hno : ∀ j, j < k → ¬ (l.getD j z69).f0.toList = nm.toList) : impl_SlotOf.idx nm l i = i + k := by
 induction l generalizing k i with
 | nil => simp at hk
 | cons x r ih =>
  simp only [impl_SlotOf.idx]
  cases k with
  | zero =>
   rw [if_pos (by simpa using h)]
   simp
  | succ k =>
   rw [if_neg (by simpa using hno 0 (by omega)), ih k (i + 1) (by simpa using hk) (by simpa using h) (fun j hj => by simpa using hno (j + 1) (by omega))]
   omega
theorem impl_SlotOf.idx_miss (nm : ByteArray) (l : List S69) (i : Int) (hno : ∀ j, j < l.length → ¬ (l.getD j z69).f0.toList = nm.toList) : impl_SlotOf.idx nm l i = -1 := by
 induction l generalizing i with
 | nil => rfl
 | cons x r ih =>
  simp only [impl_SlotOf.idx]
  rw [if_neg (by simpa using hno 0 (by simp)), ih (i + 1) (fun j hj => by simpa using hno (j + 1) (by simp; omega))]

theorem impl_SlotOf.pred (nm : ByteArray) (B : Nat) (w W : World) (hB : B < w.heap.size) (hcell : w.cell? ⟨B, 0, none⟩ = some (.string nm)) (hb : Below w.heap.size w W) (s : ByteArray) (n : Int) :
  Calls Try.prog 91 #[.agg #[.string s, .int .i64 n], .pointer (some ⟨B, 0, none⟩)] W fun e w' => e = .returned (.bool (s.toList == nm.toList)) ∧ Below w.heap.size w w' := by
 have hc : W.cell? ⟨B, 0, none⟩ = some (.string nm) := (hb.cell (p := ⟨B, 0, none⟩) hB).trans hcell
 have hBW : B < W.heap.size := Nat.lt_of_lt_of_le hB hb.size
 have hne : B ≠ W.heap.size := by omega
 go_enter Try.func91, Try.ntmps91
 go_wp2
 all_goals (go_ret; exact ⟨by simp_all, hb.alloc hb.size _⟩)

theorem impl_SlotOf.enters : ∀ args w, (callFunc 91 args).run Try.prog w = .ok (.enter 91 args) w := by
 intro args w
 exact Try.call91 args w

set_option maxHeartbeats 2000000 in
theorem impl_SlotOf.index (nm : ByteArray) (B : Nat) (A : Option Addr) (c : Nat) (l : List S69) (w : World) (hr : Kd.C k69 w A l.length l) (hB : B < w.heap.size) (hcell : w.cell? ⟨B, 0, none⟩ = some (.string nm)) :
  Calls Try.prog 90 #[.slice A l.length c, .func (.func 91) #[] #[.pointer (some ⟨B, 0, none⟩)]] w fun e w' => e = .returned (.int .i64 (impl_SlotOf.idx nm l 0)) ∧ Below w.heap.size w w' := by
 have eg : ∀ args w, (callFunc 91 args).run Try.prog w = .ok (.enter 91 args) w := impl_SlotOf.enters
 have hbig : l.length ≤ 9223372036854775807 := hr.2.1
 have HR := vA hr
 have HP := vA (fun W hb s n => impl_SlotOf.pred nm B w W hB hcell hb s n)
 clear hr hcell
 go_enter Try.func90, Try.ntmps90
 go_wp2
 go_loopg [5, 8] l.length (fun gg _ s8 wr => ∃ kk : Nat, kk ≤ l.length ∧ l.length - kk ≤ gg ∧ s8 = .int .i64 kk ∧ Aside0 (Below w.heap.size w wr) ∧ Aside0 (∀ j, j < kk → ¬ (l.getD j z69).f0.toList = nm.toList))
 case atStart => exact ⟨0, Nat.zero_le _, by omega, rfl, ⟨Below.refl _ w⟩, ⟨fun j hj => absurd hj (Nat.not_lt_zero _)⟩⟩
 case round =>
  obtain ⟨kk, hkk, hg, rfl, BW, AN⟩ := hrel
  by_cases hlt : kk < l.length
  ·have hltz : (kk : Int) < (l.length : Int) := by omega
   obtain ⟨ad, rfl, hx0, hx1⟩ := at_T69 (Kd.C_below HR.out BW.out) (kk : Int) (by omega) (by omega)
   rw [Int.toNat_natCast] at hx0 hx1
   have hget : rd_T69 l (kk : Int) = l.getD kk z69 := rfl
   rw [hget] at hx0 hx1
   generalize hy : l.getD kk z69 = y at hx0 hx1
   have HY := vA hy; clear hy hget; have hcall := HP.out wr BW.out y.f0 y.f1
   cases hq : (y.f0.toList == nm.toList) with
   | true =>
    rw [hq] at hcall
    have HC := vA hcall; clear hcall
    go_wp2_with (go_at_call 91; refine HC.out.mono ?_; rintro e w' ⟨rfl, hb'⟩)
    go_ret
    refine ⟨?_, hb'⟩
    rw [impl_SlotOf.idx_hit nm l kk 0 hlt (by rw [HY.out]; simpa using hq) AN.out]
    simp
   | false =>
    rw [hq] at hcall
    have HC := vA hcall; clear hcall
    go_wp2_with (go_at_call 91; refine HC.out.mono ?_; rintro e w' ⟨rfl, hb'⟩)
    go_roundg (l.length - (kk + 1))
    case measure => omega
    case rel =>
     refine ⟨kk + 1, by omega, by omega, by go_num, ⟨hb'⟩, ⟨fun j hj => ?_⟩⟩
     by_cases e : j = kk
     ·subst e
      rw [HY.out]; simpa using hq
     ·exact AN.out j (by omega)
  ·have hltz : ¬ (kk : Int) < (l.length : Int) := by omega
   go_wp2
   go_ret
   refine ⟨?_, BW.out⟩
   rw [impl_SlotOf.idx_miss nm l 0 (fun j hj => AN.out j (by omega))]
   rfl

def impl_SlotOf.f (a0_0 : Bool) (l0_1 : List (S69)) (a0_2 : ByteArray) (a1 : ByteArray) : Option (Int) :=
 if a1.toList = ([] : List UInt8) then some (-1) else some (impl_SlotOf.idx a1 l0_1 0)
set_option maxHeartbeats 2000000 in
theorem impl_SlotOf.calls (a0_0 : Bool) (A0_1 : Option Addr) (c0_1 : Nat) (l0_1 : List (S69)) (a0_2 : ByteArray) (a1 : ByteArray) (r : Int) (w : World) (hr0_1 : Kd.C k69 w A0_1 l0_1.length l0_1) (hc0_1 : l0_1.length ≤ c0_1) (h : impl_SlotOf.f a0_0 l0_1 a0_2 a1 = some r) :
  Calls Try.prog 31 #[.agg #[.bool a0_0, .slice A0_1 l0_1.length c0_1, .string a0_2], .string a1] w fun e w' => e = .returned (.int .i64 r) ∧ Below w.heap.size w w' := by
 unfold impl_SlotOf.f at h
 have H := vA h
 have HR := vA hr0_1
 clear h hr0_1
 by_cases c : a1.toList = ([] : List UInt8)
 ·have c0 : (a1.toList == ([] : List UInt8)) = true := beq_iff_eq.mpr c
  go_enter Try.func31, Try.ntmps31
  go_wp2
  go_ret
  have H' := H.out; rw [if_pos c] at H'; obtain rfl := Option.some.inj H'
  exact ⟨rfl, ((Below.refl _ w).alloc (Nat.le_refl _) _).alloc (by simp) _⟩
 ·have c0 : (a1.toList == ([] : List UInt8)) = false := beq_eq_false_iff_ne.mpr c
  go_enter Try.func31, Try.ntmps31
  go_wp2_with (go_at_call 90; refine (impl_SlotOf.index a1 (w.heap.size + 1) A0_1 c0_1 l0_1 _ (Kd.C_below HR.out (((Below.refl _ w).alloc (Nat.le_refl _) _).alloc (by simp) _)) (by simp) (by simp)).mono ?_; rintro e w' ⟨rfl, hb'⟩)
  go_ret
  have H' := H.out; rw [if_neg c] at H'; obtain rfl := Option.some.inj H'
  exact ⟨rfl, (((Below.refl _ w).alloc (Nat.le_refl _) _).alloc (by simp) _).trans (hb'.mono (by simp; omega))⟩

/-! ### impl_within: function 97 -/
def impl_within.f (a0 : Int) (a1 : Int) (a2 : Int) : Option (Bool) := if a0 ≥ a1 then (some (decide (a0 ≤ a2))) else (some false)
set_option maxHeartbeats 8000000 in
set_option maxRecDepth 100000 in
theorem impl_within.calls (a0 : Int) (a1 : Int) (a2 : Int) (r : Bool) (w : World) (h : impl_within.f a0 a1 a2 = some r) :
  Calls Try.prog 97 #[.int .i64 a0, .int .i64 a1, .int .i64 a2] w fun e w' => e = .returned (.bool r) ∧ Drawn0 w w' := by
 have H : (if a0 ≥ a1 then (some (decide (a0 ≤ a2))) else (some false)) = some r := h
 clear h
 by_cases c4 : a0 ≥ a1
 ·rw [if_pos c4] at H
  have c4b0 : decide (a1 ≤ a0) = true := decide_eq_true c4; clear c4; obtain rfl := Option.some.inj H
  go_enter Try.func97, Try.ntmps97
  go_wp2
  go_ret
  exact ⟨qz, qd⟩
 ·rw [if_neg c4] at H
  have c4b0 : decide (a1 ≤ a0) = false := decide_eq_false c4; clear c4; obtain rfl := Option.some.inj H
  go_enter Try.func97, Try.ntmps97
  go_wp2
  go_ret
  exact ⟨qz, qd⟩

/-! ### impl_NameOk: function 37 -/
def impl_NameOk.l0 : Nat → ByteArray → Int → Int → Option (Bool)
 | 0, _, _, _ => none
 | k + 1, x0, x5, x6 => if x6 < x5 then (if 0 ≤ x6 then (if x6 < (x0.size : Int) then ((impl_within.f (wrap64 (bt x0 x6)) 97 122).bind fun t308 => (if t308 = true then (impl_NameOk.l0 k x0 x5 (wrap64 (x6 + 1))) else ((impl_within.f (wrap64 (bt x0 x6)) 48 57).bind fun t309 => (if t309 = true then (impl_NameOk.l0 k x0 x5 (wrap64 (x6 + 1))) else (some false))))) else (none)) else (none)) else ((impl_within.f (x0.size : Int) 1 6).bind fun t307 => (some t307))
def impl_NameOk.f (k : Nat) (a0 : ByteArray) : Option (Bool) := impl_NameOk.l0 k a0 (a0.size : Int) 0
set_option maxHeartbeats 8000000 in
set_option maxRecDepth 100000 in
theorem impl_NameOk.calls (k : Nat) (a0 : ByteArray) (r : Bool) (w : World) (h : impl_NameOk.f k a0 = some r) :
  Calls Try.prog 37 #[.string a0] w fun e w' => e = .returned (.bool r) ∧ Drawn0 w w' := by
 have H : (impl_NameOk.l0 k a0 (a0.size : Int) 0) = some r := h
 clear h
 have H' := vA H
 clear H
 go_enter Try.func37, Try.ntmps37
 go_wp2
 go_loopg [6] k (fun kq v6 w' => ∃ (x6_1 : Int), v6 = .int .i64 x6_1 ∧ Aside0 (impl_NameOk.l0 kq a0 (a0.size : Int) x6_1 = some r) ∧ Aside0 (kq ≤ k) ∧ Drawn0 w w')
 case atStart => exact ⟨(0), qz, H', ⟨Nat.le_refl _⟩, qd⟩
 case round =>
  clear H'; obtain ⟨x6_1, rfl, HA, HK1, ⟨m1, rfl⟩⟩ := hrel
  cases gk with
  | zero => exact absurd HA.out (by simp [impl_NameOk.l0])
  | succ k1 =>
   have H := HA.out; clear HA
   simp only [impl_NameOk.l0] at H
   by_cases c2 : x6_1 < (a0.size : Int)
   ·rw [if_pos c2] at H
    have c2b0 : decide (x6_1 < (a0.size : Int)) = true := decide_eq_true c2; clear c2
    by_cases c3 : 0 ≤ x6_1
    ·rw [if_pos c3] at H
     have c3b0 : decide (0 ≤ x6_1) = true := decide_eq_true c3; clear c3
     by_cases c4 : x6_1 < (a0.size : Int)
     ·rw [if_pos c4] at H
      have c4b0 : decide (x6_1 < (a0.size : Int)) = true := decide_eq_true c4; clear c4; replace H := Option.bind_eq_some_iff.mp H; obtain ⟨t308, A60, H⟩ := H; have A6 := vA A60; clear A60; have p5 : 0 ≤ (x6_1 : Int) := qo; have q5 : x6_1 < (a0.size : Int) := qo; have hx5 := bt_at a0 x6_1; replace p5 := eq_true p5; replace q5 := eq_true q5
      go_wp2_with (first | ((with_reducible refine gate_callee (f := 97) rfl ?_); refine goesL_ (some 13) rfl rfl Try.func97 (by kernel_rfl) rfl #[.int .i64 (wrap64 (bt a0 x6_1)), .int .i64 97, .int .i64 122] rfl qm ?_; (with_reducible refine (impl_within.calls (wrap64 (bt a0 x6_1)) 97 122 t308 _ A6.out).mono ?_)))
      first | rintro e w' rfl ⟨nd, rfl⟩ | rintro e w' ⟨rfl, ⟨nd, rfl⟩⟩
      refine ⟨_, rfl, ?_⟩
      by_cases c7 : t308 = true
      ·subst c7
       rw [if_pos rfl] at H; have H' := vA H; clear H
       go_wp2
       go_roundg k1
       case measure => have := HK1.out; omega
       case rel => exact ⟨(wrap64 (x6_1 + 1)), qz, H', ⟨by have := HK1.out; omega⟩, qd⟩
      ·replace c7 := Bool.eq_false_iff.mpr c7
       subst c7
       rw [if_neg (show ¬ (false = true) by decide)] at H
       replace H := Option.bind_eq_some_iff.mp H; obtain ⟨t309, A90, H⟩ := H; have A9 := vA A90; clear A90
       by_cases c10 : t309 = true
       ·subst c10
        rw [if_pos rfl] at H; have H' := vA H; clear H; have p8 : 0 ≤ (x6_1 : Int) := qo; have q8 : x6_1 < (a0.size : Int) := qo; have hx8 := bt_at a0 x6_1; replace p8 := eq_true p8; replace q8 := eq_true q8
        go_wp2_with (first | (go_at_call 97; (with_reducible refine (impl_within.calls (wrap64 (bt a0 x6_1)) 48 57 true _ A9.out).mono ?_); rintro e w' ⟨rfl, ⟨nd, rfl⟩⟩))
        go_roundg k1
        case measure => have := HK1.out; omega
        case rel => exact ⟨(wrap64 (x6_1 + 1)), qz, H', ⟨by have := HK1.out; omega⟩, qd⟩
       ·replace c10 := Bool.eq_false_iff.mpr c10
        subst c10
        rw [if_neg (show ¬ (false = true) by decide)] at H
        obtain rfl := Option.some.inj H; have p8 : 0 ≤ (x6_1 : Int) := qo; have q8 : x6_1 < (a0.size : Int) := qo; have hx8 := bt_at a0 x6_1; replace p8 := eq_true p8; replace q8 := eq_true q8
        go_wp2_with (first | (go_at_call 97; (with_reducible refine (impl_within.calls (wrap64 (bt a0 x6_1)) 48 57 false _ A9.out).mono ?_); rintro e w' ⟨rfl, ⟨nd, rfl⟩⟩))
        go_ret
        exact ⟨qz, qd⟩
     ·rw [if_neg c4] at H
      exact absurd H (by simp)
    ·rw [if_neg c3] at H
     exact absurd H (by simp)
   ·rw [if_neg c2] at H
    have c2b0 : decide (x6_1 < (a0.size : Int)) = false := decide_eq_false c2; clear c2; replace H := Option.bind_eq_some_iff.mp H; obtain ⟨t307, A110, H⟩ := H; have A11 := vA A110; clear A110; obtain rfl := Option.some.inj H
    go_wp2_with (first | ((with_reducible refine gate_callee (f := 97) rfl ?_); refine goesL_ (some 26) rfl rfl Try.func97 (by kernel_rfl) rfl #[.int .i64 (a0.size : Int), .int .i64 1, .int .i64 6] rfl qm ?_; (with_reducible refine (impl_within.calls (a0.size : Int) 1 6 t307 _ A11.out).mono ?_); rintro e w' ⟨rfl, ⟨nd, rfl⟩⟩; refine ⟨_, rfl, ?_⟩))
    go_ret
    exact ⟨qz, qd⟩

/-! ### impl_isIno: function 94 -/
def impl_isIno.f (a0 : Int) : Option (Bool) := (impl_within.f a0 1 8).bind fun t310 => (some t310)
set_option maxHeartbeats 8000000 in
set_option maxRecDepth 100000 in
theorem impl_isIno.calls (a0 : Int) (r : Bool) (w : World) (h : impl_isIno.f a0 = some r) :
  Calls Try.prog 94 #[.int .i64 a0] w fun e w' => e = .returned (.bool r) ∧ Drawn0 w w' := by
 have H : ((impl_within.f a0 1 8).bind fun t310 => (some t310)) = some r := h
 clear h
 replace H := Option.bind_eq_some_iff.mp H
 obtain ⟨t310, A20, H⟩ := H
 have A2 := vA A20
 clear A20
 obtain rfl := Option.some.inj H
 go_enter Try.func94, Try.ntmps94
 go_wp2_with (first | ((with_reducible refine gate_callee (f := 97) rfl ?_); refine goesL_ (some 4) rfl rfl Try.func97 (by kernel_rfl) rfl #[.int .i64 a0, .int .i64 1, .int .i64 8] rfl qm ?_; (with_reducible refine (impl_within.calls a0 1 8 t310 _ A2.out).mono ?_); rintro e w' ⟨rfl, ⟨nd, rfl⟩⟩; refine ⟨_, rfl, ?_⟩))
 go_ret
 exact ⟨qz, qd⟩

/-! ### impl_BlockOk: function 34 -/
def impl_BlockOk.l0 : Nat → List (S69) → Int → Int → Bool → List (S69) → ByteArray → Option (Bool)
 | 0, _, _, _, _, _, _ => none
 | k + 1, x19, x20, x21, x312000, x312001, x312002 => if x21 < x20 then (if 0 ≤ x21 then (if x21 < (x19.length : Int) then (if ((((rd_T69 x19 x21).f0).toList) == ([] : List UInt8) && (((rd_T69 x19 x21).f1) == 0)) = true then (impl_BlockOk.l0 k x19 x20 (wrap64 (x21 + 1)) x312000 x312001 x312002) else ((impl_NameOk.f k ((rd_T69 x19 x21).f0)).bind fun t314 => (if t314 = true then ((impl_isIno.f ((rd_T69 x19 x21).f1)).bind fun t315 => (if t315 = true then ((impl_SlotOf.f x312000 x312001 x312002 ((rd_T69 x19 x21).f0)).bind fun t316 => (if t316 = x21 then (impl_BlockOk.l0 k x19 x20 (wrap64 (x21 + 1)) x312000 x312001 x312002) else (some false))) else (some false))) else (some false)))) else (none)) else (none)) else (if (x312001.length : Int) = 4 then (some (x312002.toList == ([] : List UInt8))) else (some false))
def impl_BlockOk.f (k : Nat) (a0_0 : Bool) (l0_1 : List (S69)) (a0_2 : ByteArray) : Option (Bool) := if a0_0 = true then (impl_BlockOk.l0 k l0_1 (l0_1.length : Int) 0 a0_0 l0_1 a0_2) else (if (l0_1.length : Int) = 0 then (some (decide ((a0_2.size : Int) ≤ 16))) else (some false))
set_option maxHeartbeats 8000000 in
set_option maxRecDepth 100000 in
theorem impl_BlockOk.calls (k : Nat) (a0_0 : Bool) (A0_1 : Option Addr) (c0_1 : Nat) (l0_1 : List (S69)) (a0_2 : ByteArray) (r : Bool) (w : World) (hr0_1 : Kd.C k69 w A0_1 l0_1.length l0_1) (hc0_1 : l0_1.length ≤ c0_1) (h : impl_BlockOk.f k a0_0 l0_1 a0_2 = some r) :
  Calls Try.prog 34 #[.agg #[.bool a0_0, .slice A0_1 l0_1.length c0_1, .string a0_2]] w fun e w' => e = .returned (.bool r) ∧ Below w.heap.size w w' := by
 have hu59 := Try.underlying59
 have hu69 := Try.underlying69
 have HR0_1 := vA hr0_1
 have HC0_1 := vA hc0_1
 clear hr0_1 hc0_1
 have HB := vA (Below.refl w.heap.size w)
 have H : (if a0_0 = true then (impl_BlockOk.l0 k l0_1 (l0_1.length : Int) 0 a0_0 l0_1 a0_2) else (if (l0_1.length : Int) = 0 then (some (decide ((a0_2.size : Int) ≤ 16))) else (some false))) = some r := h
 clear h
 by_cases c2 : a0_0 = true
 ·subst c2
  rw [if_pos rfl] at H; have H' := vA H; clear H
  go_enter Try.func34, Try.ntmps34
  go_wp2_with (first | ((with_reducible refine gate_dst (N := 1) rfl ?_); (try (refine gate_guard (by rfl) ?_; dsimp only)); refine vx (N := 1) (cs := #[.bool true, .slice A0_1 l0_1.length c0_1, .string a0_2]) (t := 59) ?_; intro gb311 hg w3 hbox hb; have BK311 := vA (hbox); have GW311 := vA ((vg hg (qb HB.out))); have GE311 := GW311; replace HB := vbs HB hb; clear hb hbox hg; obtain ⟨hcz4_0, hcz4_1, hcz4_2⟩ := v3c BK311.out; obtain ⟨hfz4_0, hfz4_1, hfz4_2⟩ := v3f BK311.out))
  go_loopg [21] k (fun kq v21 w' => ∃ (x21_1 : Int), v21 = .int .i64 x21_1 ∧ Aside0 (impl_BlockOk.l0 kq l0_1 (l0_1.length : Int) x21_1 true l0_1 a0_2 = some r) ∧ Aside0 (kq ≤ k) ∧ Aside0 (w'.heap[gb311]? = some (.cells #[.bool true, (.slice A0_1 l0_1.length c0_1), .string a0_2] 59 (0, 0))) ∧ Aside0 (Below w.heap.size w w'))
  case atStart => exact ⟨(0), qz, H', ⟨Nat.le_refl _⟩, ⟨qk BK311.out⟩, ⟨qb1 HB.out GE311.out⟩⟩
  case round =>
   clear H'
   (try clear c2); (try clear p2); (try clear c3); (try clear hcz4_0); (try clear hcz4_1); (try clear hcz4_2); (try clear hfz4_0); (try clear hfz4_1); (try clear hfz4_2)
   obtain ⟨x21_1, rfl, HA, HK1, BK311, HB⟩ := hrel
   cases gk with
   | zero => exact absurd HA.out (by simp [impl_BlockOk.l0])
   | succ k1 =>
    have H := HA.out; clear HA
    simp only [impl_BlockOk.l0] at H
    by_cases c5 : x21_1 < (l0_1.length : Int)
    ·rw [if_pos c5] at H
     have c5b0 : decide (x21_1 < (l0_1.length : Int)) = true := decide_eq_true c5; clear c5
     by_cases c6 : 0 ≤ x21_1
     ·rw [if_pos c6] at H
      have c6b0 : decide (0 ≤ x21_1) = true := decide_eq_true c6; clear c6
      by_cases c7 : x21_1 < (l0_1.length : Int)
      ·rw [if_pos c7] at H
       have c7b0 : decide (x21_1 < (l0_1.length : Int)) = true := decide_eq_true c7; clear c7
       by_cases c8 : ((((rd_T69 l0_1 x21_1).f0).toList) == ([] : List UInt8) && (((rd_T69 l0_1 x21_1).f1) == 0)) = true
       ·rw [if_pos c8] at H
        have c8b0 : ((((rd_T69 l0_1 x21_1).f0).toList) == ([] : List UInt8) && (((rd_T69 l0_1 x21_1).f1) == 0)) = true := c8
        (try (have c8b1 : decide ((((rd_T69 l0_1 x21_1).f0).toList) = ([] : List UInt8) && (((rd_T69 l0_1 x21_1).f1) == 0)) = true := by simpa using c8))
        (try (have c8b2 : ((((rd_T69 l0_1 x21_1).f0).toList) == ([] : List UInt8) && (((rd_T69 l0_1 x21_1).f1) == 0)) = true := by simpa using c8))
        (try (have c8b3 : ((((rd_T69 l0_1 x21_1).f0).toList).isEmpty && (((rd_T69 l0_1 x21_1).f1) == 0)) = true := by simpa using c8))
        clear c8; have H' := vA H; clear H; have p312 : 0 ≤ (x21_1 : Int) := qo; have q312 : x21_1 < (l0_1.length : Int) := qo; obtain ⟨ad312, e312, hx312_0, hx312_1⟩ := at_T69 HR0_1.out x21_1 p312 q312
        cases e312
        replace hx312_0 := qc HB.out hx312_0; replace hx312_1 := qc HB.out hx312_1; replace p312 := eq_true p312; replace q312 := eq_true q312
        go_wp2_with (first | ((with_reducible refine gate_dst (N := 4) rfl ?_); (try (refine gate_guard (by rfl) ?_; dsimp only)); refine vx (N := 4) (cs := #[.string (⟨#[]⟩ : ByteArray), .int .i64 0]) (t := 69) ?_; intro gb313 hg w9 hbox hb; have BK313 := vA (hbox); have GW313 := vA ((vg hg (vh HB))); have GE313 := GW313; replace HB := vbs HB hb; have NB311_313 := vn hg BK311; have NB313_311 := vN hg BK311; replace BK311 := vw BK311 hb; clear hb hbox hg; have hnb10 := NB313_311.out; have hnc10 := NB311_313.out; obtain ⟨hcz11_0, hcz11_1⟩ := v2c BK313.out; obtain ⟨hfz11_0, hfz11_1⟩ := v2f BK313.out))
        go_roundg k1
        case measure => have := HK1.out; omega
        case rel => exact ⟨(wrap64 (x21_1 + 1)), qz, H', ⟨by have := HK1.out; omega⟩, ⟨by refine qK ?_; refine blk_far ?_ NB311_313.out _; refine qK ?_; refine blk_far ?_ NB311_313.out _; refine qK ?_; exact BK311.out⟩, ⟨qb2 HB.out GE311.out GE313.out⟩⟩
       ·rw [if_neg c8] at H
        have c8b0 : ((((rd_T69 l0_1 x21_1).f0).toList) == ([] : List UInt8) && (((rd_T69 l0_1 x21_1).f1) == 0)) = false := by simpa using c8
        (try (have c8b1 : decide ((((rd_T69 l0_1 x21_1).f0).toList) = ([] : List UInt8) && (((rd_T69 l0_1 x21_1).f1) == 0)) = false := by simpa using c8))
        (try (have c8b2 : ((((rd_T69 l0_1 x21_1).f0).toList) == ([] : List UInt8) && (((rd_T69 l0_1 x21_1).f1) == 0)) = false := by simpa using c8))
        (try (have c8b3 : ¬ ((((rd_T69 l0_1 x21_1).f0).toList) = ([] : List UInt8) && (((rd_T69 l0_1 x21_1).f1) == 0)) := by simpa using c8))
        (try (have c8b4 : ((((rd_T69 l0_1 x21_1).f0).toList).isEmpty && (((rd_T69 l0_1 x21_1).f1) == 0)) = false := by simpa using c8))
        clear c8; replace H := Option.bind_eq_some_iff.mp H; obtain ⟨t314, A120, H⟩ := H; have A12 := vA A120; clear A120; have p312 : 0 ≤ (x21_1 : Int) := qo; have q312 : x21_1 < (l0_1.length : Int) := qo; obtain ⟨ad312, e312, hx312_0, hx312_1⟩ := at_T69 HR0_1.out x21_1 p312 q312
        cases e312
        replace hx312_0 := qc HB.out hx312_0; replace hx312_1 := qc HB.out hx312_1; replace p312 := eq_true p312; replace q312 := eq_true q312
        go_wp2_with (first | ((with_reducible refine gate_dst (N := 4) rfl ?_); (try (refine gate_guard (by rfl) ?_; dsimp only)); refine vx (N := 4) (cs := #[.string (⟨#[]⟩ : ByteArray), .int .i64 0]) (t := 69) ?_; intro gb313 hg w13 hbox hb; have BK313 := vA (hbox); have GW313 := vA ((vg hg (vh HB))); have GE313 := GW313; replace HB := vbs HB hb; have NB311_313 := vn hg BK311; have NB313_311 := vN hg BK311; replace BK311 := vw BK311 hb; clear hb hbox hg; have hnb14 := NB313_311.out; have hnc14 := NB311_313.out; obtain ⟨hcz15_0, hcz15_1⟩ := v2c BK313.out; obtain ⟨hfz15_0, hfz15_1⟩ := v2f BK313.out) | ((with_reducible refine gate_callee (f := 37) rfl ?_); refine goesL_ (some 31) rfl rfl Try.func37 (by kernel_rfl) rfl #[.string ((rd_T69 l0_1 x21_1).f0)] rfl qm ?_; (with_reducible refine (impl_NameOk.calls k1 ((rd_T69 l0_1 x21_1).f0) t314 _ A12.out).mono ?_)))
        first | rintro e w' rfl ⟨nd, rfl⟩ | rintro e w' ⟨rfl, ⟨nd, rfl⟩⟩
        refine ⟨_, rfl, ?_⟩
        by_cases c16 : t314 = true
        ·subst c16
         rw [if_pos rfl] at H; replace H := Option.bind_eq_some_iff.mp H; obtain ⟨t315, A170, H⟩ := H; have A17 := vA A170; clear A170
         by_cases c20 : t315 = true
         ·subst c20
          rw [if_pos rfl] at H; replace H := Option.bind_eq_some_iff.mp H; obtain ⟨t316, A210, H⟩ := H; have A21 := vA A210; clear A210
          by_cases c26 : t316 = x21_1
          ·rw [if_pos c26] at H
           have c26b0 : (t316 == x21_1) = true := beq_iff_eq.mpr c26; have c26b1 : (t316 != x21_1) = false := bne_eq_false_iff_eq.mpr c26; clear c26; have H' := vA H; clear H; have hnb27 := NB313_311.out; have hnc27 := NB311_313.out; obtain ⟨hcz28_0, hcz28_1⟩ := v2c BK313.out; obtain ⟨hfz28_0, hfz28_1⟩ := v2f BK313.out
           go_wp2_with (first | (go_at_call 94; (with_reducible refine (impl_isIno.calls ((rd_T69 l0_1 x21_1).f1) true _ A17.out).mono ?_); rintro e w' ⟨rfl, ⟨nd, rfl⟩⟩; obtain ⟨hcz29_0, hcz29_1, hcz29_2⟩ := v3c BK311.out; obtain ⟨hfz29_0, hfz29_1, hfz29_2⟩ := v3f BK311.out) | (go_at_call 31; (with_reducible refine (impl_SlotOf.calls true _ _ l0_1 a0_2 ((rd_T69 l0_1 x21_1).f0) t316 _ (Kd.C_below HR0_1.out (vh HB)) HC0_1.out A21.out).mono ?_); rintro e w30 ⟨rfl, hb⟩; replace BK311 := vB BK311 NB311_313 hb; replace BK313 := vA (blk_below (g := gb313) (o := .cells #[.string ((rd_T69 l0_1 x21_1).f0), .int .i64 ((rd_T69 l0_1 x21_1).f1)] 69 (0, 0)) (by refine qK ?_; refine blk_put (cs := #[.string ((rd_T69 l0_1 x21_1).f0), .int .i64 0]) ?_ 1 _ rfl; refine qK ?_; refine blk_put (cs := #[.string (⟨#[]⟩ : ByteArray), .int .i64 0]) ?_ 0 _ rfl; refine qK ?_; exact BK313.out) hb); replace HB := vbs HB hb; clear hb))
           go_roundg k1
           case measure => have := HK1.out; omega
           case rel => exact ⟨(wrap64 (x21_1 + 1)), qz, H', ⟨by have := HK1.out; omega⟩, ⟨qk BK311.out⟩, ⟨qb2 HB.out GE311.out GE313.out⟩⟩
          ·rw [if_neg c26] at H
           have c26b0 : (t316 == x21_1) = false := beq_eq_false_iff_ne.mpr c26; have c26b1 : (t316 != x21_1) = true := bne_iff_ne.mpr c26; obtain rfl := Option.some.inj H; have hnb31 := NB313_311.out; have hnc31 := NB311_313.out; obtain ⟨hcz32_0, hcz32_1⟩ := v2c BK313.out; obtain ⟨hfz32_0, hfz32_1⟩ := v2f BK313.out
           go_wp2_with (first | (go_at_call 94; (with_reducible refine (impl_isIno.calls ((rd_T69 l0_1 x21_1).f1) true _ A17.out).mono ?_); rintro e w' ⟨rfl, ⟨nd, rfl⟩⟩; obtain ⟨hcz33_0, hcz33_1, hcz33_2⟩ := v3c BK311.out; obtain ⟨hfz33_0, hfz33_1, hfz33_2⟩ := v3f BK311.out) | (go_at_call 31; (with_reducible refine (impl_SlotOf.calls true _ _ l0_1 a0_2 ((rd_T69 l0_1 x21_1).f0) t316 _ (Kd.C_below HR0_1.out (vh HB)) HC0_1.out A21.out).mono ?_); rintro e w34 ⟨rfl, hb⟩; replace BK311 := vB BK311 NB311_313 hb; replace BK313 := vA (blk_below (g := gb313) (o := .cells #[.string ((rd_T69 l0_1 x21_1).f0), .int .i64 ((rd_T69 l0_1 x21_1).f1)] 69 (0, 0)) (by refine qK ?_; refine blk_put (cs := #[.string ((rd_T69 l0_1 x21_1).f0), .int .i64 0]) ?_ 1 _ rfl; refine qK ?_; refine blk_put (cs := #[.string (⟨#[]⟩ : ByteArray), .int .i64 0]) ?_ 0 _ rfl; refine qK ?_; exact BK313.out) hb); replace HB := vbs HB hb; clear hb))
           go_ret
           exact ⟨qe, qb2 HB.out GE311.out GE313.out⟩
         ·replace c20 := Bool.eq_false_iff.mpr c20
          subst c20
          rw [if_neg (show ¬ (false = true) by decide)] at H
          obtain rfl := Option.some.inj H; have hnb35 := NB313_311.out; have hnc35 := NB311_313.out; obtain ⟨hcz36_0, hcz36_1⟩ := v2c BK313.out; obtain ⟨hfz36_0, hfz36_1⟩ := v2f BK313.out
          go_wp2_with (first | (go_at_call 94; (with_reducible refine (impl_isIno.calls ((rd_T69 l0_1 x21_1).f1) false _ A17.out).mono ?_); rintro e w' ⟨rfl, ⟨nd, rfl⟩⟩))
          go_ret
          exact ⟨qe, qb2 HB.out GE311.out GE313.out⟩
        ·replace c16 := Bool.eq_false_iff.mpr c16
         subst c16
         rw [if_neg (show ¬ (false = true) by decide)] at H
         obtain rfl := Option.some.inj H
         go_wp2
         go_ret
         exact ⟨qe, qb2 HB.out GE311.out GE313.out⟩
      ·rw [if_neg c7] at H
       exact absurd H (by simp)
     ·rw [if_neg c6] at H
      exact absurd H (by simp)
    ·rw [if_neg c5] at H
     have c5b0 : decide (x21_1 < (l0_1.length : Int)) = false := decide_eq_false c5; clear c5
     by_cases c37 : (l0_1.length : Int) = 4
     ·rw [if_pos c37] at H
      have c37b0 : ((l0_1.length : Int) == 4) = true := beq_iff_eq.mpr c37; have c37b1 : ((l0_1.length : Int) != 4) = false := bne_eq_false_iff_eq.mpr c37; clear c37; obtain rfl := Option.some.inj H; obtain ⟨hcz38_0, hcz38_1, hcz38_2⟩ := v3c BK311.out; obtain ⟨hfz38_0, hfz38_1, hfz38_2⟩ := v3f BK311.out
      go_wp2
      go_ret
      exact ⟨qe, qb1 HB.out GE311.out⟩
     ·rw [if_neg c37] at H
      have c37b0 : ((l0_1.length : Int) == 4) = false := beq_eq_false_iff_ne.mpr c37; have c37b1 : ((l0_1.length : Int) != 4) = true := bne_iff_ne.mpr c37; obtain rfl := Option.some.inj H; obtain ⟨hcz39_0, hcz39_1, hcz39_2⟩ := v3c BK311.out; obtain ⟨hfz39_0, hfz39_1, hfz39_2⟩ := v3f BK311.out
      go_wp2
      go_ret
      exact ⟨qe, qb1 HB.out GE311.out⟩
 ·replace c2 := Bool.eq_false_iff.mpr c2
  subst c2
  rw [if_neg (show ¬ (false = true) by decide)] at H
  by_cases c40 : (l0_1.length : Int) = 0
  ·rw [if_pos c40] at H
   have c40b0 : ((l0_1.length : Int) == 0) = true := beq_iff_eq.mpr c40; have c40b1 : ((l0_1.length : Int) != 0) = false := bne_eq_false_iff_eq.mpr c40; clear c40; obtain rfl := Option.some.inj H
   go_enter Try.func34, Try.ntmps34
   go_wp2_with (first | ((with_reducible refine gate_dst (N := 1) rfl ?_); (try (refine gate_guard (by rfl) ?_; dsimp only)); refine vx (N := 1) (cs := #[.bool false, .slice A0_1 l0_1.length c0_1, .string a0_2]) (t := 59) ?_; intro gb311 hg w41 hbox hb; have BK311 := vA (hbox); have GW311 := vA ((vg hg (qb HB.out))); have GE311 := GW311; replace HB := vbs HB hb; clear hb hbox hg; obtain ⟨hcz42_0, hcz42_1, hcz42_2⟩ := v3c BK311.out; obtain ⟨hfz42_0, hfz42_1, hfz42_2⟩ := v3f BK311.out))
   go_ret
   exact ⟨qe, qb1 HB.out GE311.out⟩
  ·rw [if_neg c40] at H
   have c40b0 : ((l0_1.length : Int) == 0) = false := beq_eq_false_iff_ne.mpr c40; have c40b1 : ((l0_1.length : Int) != 0) = true := bne_iff_ne.mpr c40
   have c40b2 : ¬ (l0_1 = []) := fun h_ => c40 (by rw [h_]; rfl)
   obtain rfl := Option.some.inj H
   go_enter Try.func34, Try.ntmps34
   go_wp2_with (first | ((with_reducible refine gate_dst (N := 1) rfl ?_); (try (refine gate_guard (by rfl) ?_; dsimp only)); refine vx (N := 1) (cs := #[.bool false, .slice A0_1 l0_1.length c0_1, .string a0_2]) (t := 59) ?_; intro gb311 hg w43 hbox hb; have BK311 := vA (hbox); have GW311 := vA ((vg hg (qb HB.out))); have GE311 := GW311; replace HB := vbs HB hb; clear hb hbox hg; obtain ⟨hcz44_0, hcz44_1, hcz44_2⟩ := v3c BK311.out; obtain ⟨hfz44_0, hfz44_1, hfz44_2⟩ := v3f BK311.out))
   go_ret
   exact ⟨qe, qb1 HB.out GE311.out⟩

/-! ### impl_byteTexts: function 83 -/
def impl_byteTexts.l0 : Nat → List Int → List Int → Int → Int → Option (ByteArray)
 | 0, _, _, _, _ => none
 | k + 1, x3, x7, x8, x9 => if x9 < x8 then (if 0 ≤ x9 then (if x9 < (x7.length : Int) then (if x3.length < 140737488355328 then (impl_byteTexts.l0 k (x3 ++ [(rd x7 x9) % 256]) x7 x8 (wrap64 (x9 + 1))) else (none)) else (none)) else (none)) else (some (strOfNums x3))
def impl_byteTexts.f (k : Nat) (l0 : List Int) : Option (ByteArray) := impl_byteTexts.l0 k (([] : List Int)) l0 (l0.length : Int) 0
set_option maxHeartbeats 8000000 in
set_option maxRecDepth 100000 in
theorem impl_byteTexts.calls (k : Nat) (A0 : Option Addr) (c0 : Nat) (l0 : List Int) (r : ByteArray) (w : World) (hr0 : Kd.C (Kd.int .i64) w A0 l0.length l0) (hc0 : l0.length ≤ c0) (h : impl_byteTexts.f k l0 = some r) :
  Calls Try.prog 83 #[.slice A0 l0.length c0] w fun e w' => e = .returned (.string r) ∧ Below w.heap.size w w' := by
 have HR0 := vA hr0
 have HC0 := vA hc0
 clear hr0 hc0
 have HB := vA (Below.refl w.heap.size w)
 have H : (impl_byteTexts.l0 k (([] : List Int)) l0 (l0.length : Int) 0) = some r := h
 clear h
 obtain ⟨y317, hy317⟩ : ∃ y_ : List Int, y_ = (([] : List Int)) := ⟨_, rfl⟩
 first | rw [Option.bind_some, ← hy317] at H | rw [← hy317] at H
 have Ny317 := vA hy317
 clear hy317
 have H' := vA H
 clear H
 go_enter Try.func83, Try.ntmps83
 go_wp2_with (first | ((with_reducible refine gate_dst (N := 6) rfl ?_); refine Kd.R_lit (Kd.int .u8) _ 5 ?hg (N := 6) ?hd (xs := ([] : List Int)) (inner := []) (ok := fun _ => True) (okp := fun _ => True) ?hr ?hp (fun _ hk => hk) trivial (Below.refl _ _) (Nat.le_refl _) (by simp) ?_; (case hd => rfl); (case hg => rfl); (case hr => first | (go_simp; done) | (go_simp; rfl)); (case hp => exact (Reps.none _ _)); intro v318 w2 ho3 hb hg_ hnew_; clear hg_ hnew_; (first | rw [← Ny317.out] at ho3 | (simp only [Int.reduceToNat] at ho3; rw [← Ny317.out] at ho3)); have HO319 := vA (Kd.R_lower ho3 (below_size (qb HB.out))); replace HB := vbs HB hb; clear hb ho3))
 go_loopg [3, 9] k (fun kq v3 v9 w' => ∃ (x3_1 : List Int) (x9_1 : Int), v9 = .int .i64 x9_1 ∧ Aside0 (impl_byteTexts.l0 kq x3_1 l0 (l0.length : Int) x9_1 = some r) ∧ Aside0 (kq ≤ k) ∧ Aside0 (Kd.R (Kd.int .u8) 5 w' w.heap.size (fun _ => True) v3 x3_1) ∧ Aside0 (Below w.heap.size w w'))
 case atStart => exact ⟨(y317), (0), qz, H', ⟨Nat.le_refl _⟩, ⟨qr HO319.out⟩, ⟨qb HB.out⟩⟩
 case round =>
  clear H'
  (try clear p2)
  obtain ⟨x3_1, x9_1, rfl, HA, HK1, HO_3, HB⟩ := hrel
  cases gk with
  | zero => exact absurd HA.out (by simp [impl_byteTexts.l0])
  | succ k1 =>
   have H := HA.out; clear HA
   simp only [impl_byteTexts.l0] at H
   by_cases c4 : x9_1 < (l0.length : Int)
   ·rw [if_pos c4] at H
    have c4b0 : decide (x9_1 < (l0.length : Int)) = true := decide_eq_true c4; clear c4
    by_cases c5 : 0 ≤ x9_1
    ·rw [if_pos c5] at H
     have c5b0 : decide (0 ≤ x9_1) = true := decide_eq_true c5; clear c5
     by_cases c6 : x9_1 < (l0.length : Int)
     ·rw [if_pos c6] at H
      have c6b0 : decide (x9_1 < (l0.length : Int)) = true := decide_eq_true c6; clear c6
      by_cases c7 : x3_1.length < 140737488355328
      ·rw [if_pos c7] at H
       have LMc7 := vA c7; clear c7; obtain ⟨y321, hy321⟩ : ∃ y_ : List Int, y_ = (x3_1 ++ [(rd l0 x9_1) % 256]) := ⟨_, rfl⟩
       first | rw [Option.bind_some, ← hy321] at H | rw [← hy321] at H
       have Ny321 := vA hy321; clear hy321; have H' := vA H; clear H; have p320 : 0 ≤ (x9_1 : Int) := qo; have q320 : x9_1 < (l0.length : Int) := qo; obtain ⟨ad320, e320, hx320_0⟩ := Kd.at_int HR0.out x9_1 p320 q320
       cases e320
       replace hx320_0 := qc HB.out hx320_0; replace p320 := eq_true p320; replace q320 := eq_true q320
       go_wp2_with (first | ((with_reducible refine gate_builtin (b := .append) (xs := #[.tmp 13, .tmp 16]) rfl ?_); at_builtin; refine Kd.R_append (Kd.int .u8) (w0 := w) w.heap.size rfl (.tmp 13) (.tmp 16) 65 5 (.int .u8 0) 1 rfl Try.underlying65 info5 rfl (by decide) (by omega) u3 x3_1 ((rd l0 x9_1) % 256) [.int .u8 ((rd l0 x9_1) % 256)] (fun _ => True) (fun _ => False) rfl rfl ?aP (fun _ hk => hk.elim) ?aF ?aO ?aB ?aS ?aL ?_; (case aP => exact rfl); (case aB => exact (qb HB.out)); (case aF => exact (fun _ _ => trivial)); (case aO => exact (qr HO_3.out)); (case aS => exact (below_size (qb HB.out))); (case aL => have := LMc7.out; omega); intro v322 w8 ho hb hg hat; rw [← Ny321.out] at ho; replace HB := vA (hb); have HO323 := vA (ho); clear HO_3 ho hb hg hat))
       go_roundg k1
       case measure => have := HK1.out; omega
       case rel => exact ⟨(y321), (wrap64 (x9_1 + 1)), qz, H', ⟨by have := HK1.out; omega⟩, ⟨qr HO323.out⟩, ⟨qb HB.out⟩⟩
      ·rw [if_neg c7] at H
       exact absurd H (by simp)
     ·rw [if_neg c6] at H
      exact absurd H (by simp)
    ·rw [if_neg c5] at H
     exact absurd H (by simp)
   ·rw [if_neg c4] at H
    have c4b0 : decide (x9_1 < (l0.length : Int)) = false := decide_eq_false c4; clear c4; obtain rfl := Option.some.inj H; have hcv9 := own_string (P := Try.prog) Try.underlying65 Try.underlying5 Try.underlying9 (Kd.own_of_R HO_3.out)
    go_wp2
    go_ret
    exact ⟨qe, qb HB.out⟩

end Go.Proofs.Ytdnbpapolckklaa.PFnExactDiskOf
