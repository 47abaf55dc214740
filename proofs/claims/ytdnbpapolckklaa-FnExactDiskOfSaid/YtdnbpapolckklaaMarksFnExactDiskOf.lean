/- FnExactDiskOf: the marks into rows of rows (markInodeS, markBlockS, markDisk), and the law's calls, by hand. No condition. -/
import Derived.Test.YtdnbpapolckklaaHandFnExactDiskOf
import Derived.Test.YtdnbpapolckklaaPFnExactDiskOfx2
import Derived.Test.YtdnbpapolckklaaPFnExactDiskOfx4
import Derived.Test.YtdnbpapolckklaaPFnExactDiskOfx5
import Derived.Test.YtdnbpapolckklaaPFnExactDiskOfx15
import Derived.Test.YtdnbpapolckklaaPFnExactDiskOfx16
import Derived.Test.YtdnbpapolckklaaPFnExactDiskOfx23
namespace Go.Proofs.Ytdnbpapolckklaa.PFnExactDiskOf
open Go Go.RowKit Go.Proofs.YtdnbpapolckklaaW.PrintWords Go.Proofs.YtdnbpapolckklaaW.PrintLast Go.Proofs.YtdnbpapolckklaaW.PrintMore
set_option linter.unusedVariables false
set_option linter.unusedSimpArgs false
/-! ### laws_markInodeS: function 69, by hand -/
def laws_markInodeS.l0 : Nat → List S105 → Int → Int → Option (Int × List S105)
  | 0, _, _, _ => none
  | k + 1, x0, x1, x5 => if x5 < (x0.length : Int) then (if 0 ≤ x5 then ((laws_markIntS.f k (rd_T105 x0 x5).f2 (wrap64 (wrap64 (x1 + 1) + 1))).bind fun bt => laws_markInodeS.l0 k (x0.set (x5 : Int).toNat ⟨x1, wrap64 (x1 + 1), bt.2⟩) bt.1 (wrap64 (x5 + 1))) else none) else some (x1, x0)
def laws_markInodeS.f (k : Nat) (l0 : List S105) (a1 : Int) : Option (Int × List S105) := laws_markInodeS.l0 k l0 a1 0
theorem setCells_one (W : World) (g j : Nat) (v : Value) : W.setCells g j [v] = W.setCell ⟨g, j, none⟩ v := rfl
set_option maxHeartbeats 2000000 in
set_option maxRecDepth 100000 in
theorem laws_markInodeS.calls (k : Nat) (P0_ : Nat → Prop) (u9000_ : Value) (l0 : List S105) (a1 : Int) (r1 : Int) (r2 : List S105) (w0 w : World) (hB : Below w0.heap.size w0 w) (ho0 : Kd.S k105 105 w w0.heap.size P0_ u9000_ l0) (h : laws_markInodeS.f k l0 a1 = some (r1, r2)) :
    Calls Try.prog 69 #[u9000_, .int .i64 a1] w fun e w' => e = .returned (.int .i64 r1) ∧ Kd.S k105 105 w' w0.heap.size (fun k_ => (P0_ k_ ∨ w.heap.size ≤ k_)) u9000_ r2 ∧ Below w0.heap.size w0 w' ∧ Kept w w' (fun k_ => P0_ k_) := by
  have HO0 := Aside0.mk (show Kd.S k105 105 w w0.heap.size (fun k_ => (P0_ k_ ∨ w.heap.size ≤ k_)) u9000_ l0 from Kd.S_mono ho0 (fun k_ hk => (.inl hk)))
  have HK := Aside0.mk (Kept.refl w (fun k_ => P0_ k_))
  have HB := Aside0.mk hB
  clear hB
  have H' := Aside0.mk (show (laws_markInodeS.l0 k l0 a1 0) = some (r1, r2) from h)
  clear h ho0
  go_enter Try.func69, Try.ntmps69
  go_wp2
  go_loopg [1, 5] k (fun kq v1 v5 w' => ∃ (x0_1 : List S105) (x1_1 : Int) (x5_1 : Int), v1 = .int .i64 x1_1 ∧ v5 = .int .i64 x5_1 ∧ Aside0 (laws_markInodeS.l0 kq x0_1 x1_1 x5_1 = some (r1, r2)) ∧ Aside0 (kq ≤ k) ∧ Aside0 (Kd.S k105 105 w' w0.heap.size (fun k_ => (P0_ k_ ∨ w.heap.size ≤ k_)) u9000_ x0_1) ∧ Aside0 (Kept w w' (fun k_ => P0_ k_)) ∧ Aside0 (Below w0.heap.size w0 w'))
  case atStart => exact ⟨l0, a1, 0, rfl, rfl, H', ⟨Nat.le_refl _⟩, HO0, HK, HB⟩
  case round =>
    clear H'
    try clear p2
    obtain ⟨x0_1, x1_1, x5_1, rfl, rfl, HA, HK1, HO_0, HK, HB⟩ := hrel
    cases gk with
    | zero => exact absurd HA.out (by simp [laws_markInodeS.l0])
    | succ k1 =>
      have H := HA.out
      clear HA
      simp only [laws_markInodeS.l0] at H
      by_cases c3 : x5_1 < (x0_1.length : Int)
      · rw [if_pos c3] at H
        have c3b0 : decide (x5_1 < (x0_1.length : Int)) = true := decide_eq_true c3
        by_cases c4 : 0 ≤ x5_1
        · rw [if_pos c4] at H
          have c4b0 : decide (0 ≤ x5_1) = true := decide_eq_true c4
          replace H := Option.bind_eq_some_iff.mp H
          obtain ⟨⟨m1, ys⟩, A5, H⟩ := H
          have A5 := Aside0.mk A5
          have H' := Aside0.mk H
          clear H
          obtain ⟨g, co, eo, gb, gl, cl, HG⟩ := Kd.S_form HO_0.out (by omega)
          subst eo
          obtain ⟨oki, ce, hcl, hM, hcc, hfr, hoki, hH⟩ := Kd.S_elem HO_0.out z105 x5_1 c4 c3
          obtain ⟨v2, rfl, gR⟩ := k105_openM hM
          have hx0 : wr.cell? ⟨g, x5_1.toNat * 3, none⟩ = some (.int .i64 ((rd_T105 x0_1 x5_1).f0)) := hcc 0 _ rfl
          have hx1 : wr.cell? ⟨g, x5_1.toNat * 3 + 1, none⟩ = some (.int .i64 ((rd_T105 x0_1 x5_1).f1)) := hcc 1 _ rfl
          have hx2 : wr.cell? ⟨g, x5_1.toNat * 3 + 2, none⟩ = some v2 := hcc 2 _ rfl
          have hf0 : wr.frozen? ⟨g, x5_1.toNat * 3, none⟩ = false := hfr 0
          have hf1 : wr.frozen? ⟨g, x5_1.toNat * 3 + 1, none⟩ = false := hfr 1
          have p5 := eq_true c4
          have q5 := eq_true c3
          have hH := Aside0.mk hH
          have gR := Aside0.mk gR
          have hoki := Aside0.mk hoki
          have GB := Aside0.mk gb
          clear hcc hfr hM HG gb gl cl hcl
          have hH1 : Kd.H k105 105 (wr.setCell ⟨g, x5_1.toNat * 3, none⟩ (.int .i64 x1_1)) w0.heap.size (fun k_ => (P0_ k_ ∨ w.heap.size ≤ k_)) (.slice (some ⟨g, 0, none⟩) x0_1.length co) x0_1 x5_1 oki [.int .i64 x1_1, .int .i64 ((rd_T105 x0_1 x5_1).f1), v2] ∧ wr.grownBy (wr.setCell ⟨g, x5_1.toNat * 3, none⟩ (.int .i64 x1_1)) (some g) := Kd.H_seg hH.out c4 c3 (seg := [.int .i64 x1_1]) (j := 0) (show 1 ≤ 3 by decide) (fun q hq => by rw [List.mem_singleton.1 hq]; rfl)
          have hH2 : Kd.H k105 105 ((wr.setCell ⟨g, x5_1.toNat * 3, none⟩ (.int .i64 x1_1)).setCell ⟨g, x5_1.toNat * 3 + 1, none⟩ (.int .i64 (wrap64 (x1_1 + 1)))) w0.heap.size (fun k_ => (P0_ k_ ∨ w.heap.size ≤ k_)) (.slice (some ⟨g, 0, none⟩) x0_1.length co) x0_1 x5_1 oki [.int .i64 x1_1, .int .i64 (wrap64 (x1_1 + 1)), v2] ∧ (wr.setCell ⟨g, x5_1.toNat * 3, none⟩ (.int .i64 x1_1)).grownBy ((wr.setCell ⟨g, x5_1.toNat * 3, none⟩ (.int .i64 x1_1)).setCell ⟨g, x5_1.toNat * 3 + 1, none⟩ (.int .i64 (wrap64 (x1_1 + 1)))) (some g) := Kd.H_seg hH1.1 c4 c3 (seg := [.int .i64 (wrap64 (x1_1 + 1))]) (j := 1) (show 2 ≤ 3 by decide) (fun q hq => by rw [List.mem_singleton.1 hq]; rfl)
          have hown : ∀ k_, some k_ = v2.ownBlock → oki k_ := fun k_ e_ => gR.out.1 k_ e_.symm
          have hgown : ∀ k_, some k_ = v2.ownBlock → some k_ ≠ some g := fun k_ e_ e2 => (hoki.out k_ (hown k_ e_)).2 (Option.some.inj e2)
          have HR2 := Aside0.mk (Kd.R_grown (Kd.R_grown (Kd.R_tight rfl gR.out) hH1.2 (fun k_ e_ => hgown k_ e_)) hH2.2 (fun k_ e_ => hgown k_ e_))
          have HB2 := Aside0.mk (below_set (below_set HB.out GB.out) GB.out : Below w0.heap.size w0 ((wr.setCell ⟨g, x5_1.toNat * 3, none⟩ (.int .i64 x1_1)).setCell ⟨g, x5_1.toNat * 3 + 1, none⟩ (.int .i64 (wrap64 (x1_1 + 1)))))
          have hPg : P0_ g ∨ w.heap.size ≤ g := (Kd.S_R HO_0.out).1 g rfl
          have HK2 := Aside0.mk (Kept.setCell (Kept.setCell HK.out (p := ⟨g, x5_1.toNat * 3, none⟩) hPg (.int .i64 x1_1)) (p := ⟨g, x5_1.toNat * 3 + 1, none⟩) hPg (.int .i64 (wrap64 (x1_1 + 1))))
          have HH2 := Aside0.mk hH2.1
          have HO := Aside0.mk hown
          clear hH1 hH2 hgown hPg hown c3 c4
          go_wp2_with (go_at_call 133; refine (laws_markIntS.calls k1 (fun k_ => some k_ = v2.ownBlock) v2 (rd_T105 x0_1 x5_1).f2 _ m1 ys w0 _ HB2.out HR2.out A5.out).mono ?_; rintro e w3 ⟨rfl, hR3, hB3, hK3⟩)
          have hR4 := Kd.R_tight rfl hR3
          have hH3 := Kd.H_kept HH2.out hK3 (fun k_ _ hn he => hn (HO.out k_ he))
          have hS := Kd.H_back hH3 (k105_mkM w3 w0.heap.size _ (⟨x1_1, wrap64 (x1_1 + 1), ys⟩ : S105) hR4) (fun k_ e_ => HO.out k_ e_)
          have hK4 := Kept.then_ HK2.out hK3 (fun k_ e_ => (hoki.out k_ (HO.out k_ e_)).1)
          go_roundg k1
          case measure => have := HK1.out; omega
          case rel => exact ⟨_, m1, _, rfl, rfl, H', ⟨by have := HK1.out; omega⟩, ⟨hS⟩, ⟨hK4⟩, ⟨hB3⟩⟩
        · rw [if_neg c4] at H
          exact absurd H (by simp)
      · rw [if_neg c3] at H
        have c3b0 : decide (x5_1 < (x0_1.length : Int)) = false := decide_eq_false c3
        clear c3
        simp only [Option.some.injEq, Prod.mk.injEq] at H
        obtain ⟨rfl, rfl⟩ := H
        obtain ⟨Ao9, co9, eo9⟩ := Kd.S_slice HO_0.out
        subst eo9
        go_wp2
        go_ret
        exact ⟨rfl, HO_0.out, HB.out, HK.out⟩
/-! ### laws_markBlockS: function 70, by hand -/
def laws_markBlockS.l0 : Nat → List S59 → Int → Int → Option (Int × List S59)
  | 0, _, _, _ => none
  | k + 1, x0, x1, x5 => if x5 < (x0.length : Int) then (if 0 ≤ x5 then ((laws_markSlotS.f k (rd_T59 x0 x5).f1 (wrap64 (x1 + 1))).bind fun bt => (laws_markText.f k bt.1).bind fun t => laws_markBlockS.l0 k (x0.set (x5 : Int).toNat ⟨Int.tmod x1 3 == 0, bt.2, t⟩) (wrap64 (bt.1 + 1)) (wrap64 (x5 + 1))) else none) else some (x1, x0)
def laws_markBlockS.f (k : Nat) (l0 : List S59) (a1 : Int) : Option (Int × List S59) := laws_markBlockS.l0 k l0 a1 0
set_option maxHeartbeats 2000000 in
set_option maxRecDepth 100000 in
theorem laws_markBlockS.calls (k : Nat) (P0_ : Nat → Prop) (u9000_ : Value) (l0 : List S59) (a1 : Int) (r1 : Int) (r2 : List S59) (w0 w : World) (hB : Below w0.heap.size w0 w) (ho0 : Kd.S k59 59 w w0.heap.size P0_ u9000_ l0) (h : laws_markBlockS.f k l0 a1 = some (r1, r2)) :
    Calls Try.prog 70 #[u9000_, .int .i64 a1] w fun e w' => e = .returned (.int .i64 r1) ∧ Kd.S k59 59 w' w0.heap.size (fun k_ => (P0_ k_ ∨ w.heap.size ≤ k_)) u9000_ r2 ∧ Below w0.heap.size w0 w' ∧ Kept w w' (fun k_ => P0_ k_) := by
  have HO0 := Aside0.mk (show Kd.S k59 59 w w0.heap.size (fun k_ => (P0_ k_ ∨ w.heap.size ≤ k_)) u9000_ l0 from Kd.S_mono ho0 (fun k_ hk => (.inl hk)))
  have HK := Aside0.mk (Kept.refl w (fun k_ => P0_ k_))
  have HB := Aside0.mk hB
  clear hB
  have H' := Aside0.mk (show (laws_markBlockS.l0 k l0 a1 0) = some (r1, r2) from h)
  clear h ho0
  go_enter Try.func70, Try.ntmps70
  go_wp2
  go_loopg [1, 5] k (fun kq v1 v5 w' => ∃ (x0_1 : List S59) (x1_1 : Int) (x5_1 : Int), v1 = .int .i64 x1_1 ∧ v5 = .int .i64 x5_1 ∧ Aside0 (laws_markBlockS.l0 kq x0_1 x1_1 x5_1 = some (r1, r2)) ∧ Aside0 (kq ≤ k) ∧ Aside0 (Kd.S k59 59 w' w0.heap.size (fun k_ => (P0_ k_ ∨ w.heap.size ≤ k_)) u9000_ x0_1) ∧ Aside0 (Kept w w' (fun k_ => P0_ k_)) ∧ Aside0 (Below w0.heap.size w0 w'))
  case atStart => exact ⟨l0, a1, 0, rfl, rfl, H', ⟨Nat.le_refl _⟩, HO0, HK, HB⟩
  case round =>
    clear H'
    try clear p2
    obtain ⟨x0_1, x1_1, x5_1, rfl, rfl, HA, HK1, HO_0, HK, HB⟩ := hrel
    cases gk with
    | zero => exact absurd HA.out (by simp [laws_markBlockS.l0])
    | succ k1 =>
      have H := HA.out
      clear HA
      simp only [laws_markBlockS.l0] at H
      by_cases c3 : x5_1 < (x0_1.length : Int)
      · rw [if_pos c3] at H
        have c3b0 : decide (x5_1 < (x0_1.length : Int)) = true := decide_eq_true c3
        by_cases c4 : 0 ≤ x5_1
        · rw [if_pos c4] at H
          have c4b0 : decide (0 ≤ x5_1) = true := decide_eq_true c4
          replace H := Option.bind_eq_some_iff.mp H
          obtain ⟨⟨m1, ys⟩, A5, H⟩ := H
          have A5 := Aside0.mk A5
          replace H := Option.bind_eq_some_iff.mp H
          obtain ⟨tx, A6, H⟩ := H
          have A6 := Aside0.mk A6
          have H' := Aside0.mk H
          clear H
          obtain ⟨g, co, eo, gb, gl, cl, HG⟩ := Kd.S_form HO_0.out (by omega)
          subst eo
          obtain ⟨oki, ce, hcl, hM, hcc, hfr, hoki, hH⟩ := Kd.S_elem HO_0.out z59 x5_1 c4 c3
          obtain ⟨v2, rfl, gR⟩ := k59_openM hM
          have hx0 : wr.cell? ⟨g, x5_1.toNat * 3, none⟩ = some (.bool ((rd_T59 x0_1 x5_1).f0)) := hcc 0 _ rfl
          have hx1 : wr.cell? ⟨g, x5_1.toNat * 3 + 1, none⟩ = some v2 := hcc 1 _ rfl
          have hf0 : wr.frozen? ⟨g, x5_1.toNat * 3, none⟩ = false := hfr 0
          have p5 := eq_true c4
          have q5 := eq_true c3
          have hH := Aside0.mk hH
          have gR := Aside0.mk gR
          have hoki := Aside0.mk hoki
          have GB := Aside0.mk gb
          have GL := Aside0.mk gl
          clear hcc hfr hM HG gb gl cl hcl
          have hH1 : Kd.H k59 59 (wr.setCell ⟨g, x5_1.toNat * 3, none⟩ (.bool (Int.tmod x1_1 3 == 0))) w0.heap.size (fun k_ => (P0_ k_ ∨ w.heap.size ≤ k_)) (.slice (some ⟨g, 0, none⟩) x0_1.length co) x0_1 x5_1 oki [.bool (Int.tmod x1_1 3 == 0), v2, .string ((rd_T59 x0_1 x5_1).f2)] ∧ wr.grownBy (wr.setCell ⟨g, x5_1.toNat * 3, none⟩ (.bool (Int.tmod x1_1 3 == 0))) (some g) := Kd.H_seg hH.out c4 c3 (seg := [.bool (Int.tmod x1_1 3 == 0)]) (j := 0) (show 1 ≤ 3 by decide) (fun q hq => by rw [List.mem_singleton.1 hq]; rfl)
          have hown : ∀ k_, some k_ = v2.ownBlock → oki k_ := fun k_ e_ => gR.out.1 k_ e_.symm
          have hgown : ∀ k_, some k_ = v2.ownBlock → some k_ ≠ some g := fun k_ e_ e2 => (hoki.out k_ (hown k_ e_)).2 (Option.some.inj e2)
          have HR2 := Aside0.mk (Kd.R_grown (Kd.R_tight rfl gR.out) hH1.2 (fun k_ e_ => hgown k_ e_))
          have HB2 := Aside0.mk (below_set HB.out GB.out : Below w0.heap.size w0 (wr.setCell ⟨g, x5_1.toNat * 3, none⟩ (.bool (Int.tmod x1_1 3 == 0))))
          have hPg : P0_ g ∨ w.heap.size ≤ g := (Kd.S_R HO_0.out).1 g rfl
          have HPG := Aside0.mk hPg
          have HK2 := Aside0.mk (Kept.setCell HK.out (p := ⟨g, x5_1.toNat * 3, none⟩) hPg (.bool (Int.tmod x1_1 3 == 0)))
          have HH2 := Aside0.mk hH1.1
          have HO := Aside0.mk hown
          have C3 := Aside0.mk c3
          have C4 := Aside0.mk c4
          clear hH1 hgown hPg hown c3 c4
          go_wp2_with (go_at_call 106; refine (laws_markSlotS.calls k1 (fun k_ => some k_ = v2.ownBlock) v2 (rd_T59 x0_1 x5_1).f1 _ m1 ys w0 _ HB2.out HR2.out A5.out).mono ?_; rintro e w3 ⟨rfl, hR3, hB3, hK3⟩)
          have hR4 := Kd.R_tight rfl hR3
          have hH3 := Kd.H_kept HH2.out hK3 (fun k_ _ hn he => hn (HO.out k_ he))
          have hK4 := Kept.then_ HK2.out hK3 (fun k_ e_ => (hoki.out k_ (HO.out k_ e_)).1)
          with_reducible refine (laws_markText.calls k1 m1 tx _ A6.out).mono ?_
          rintro e w4 ⟨rfl, hb4⟩
          have hH4 := Kd.H_below hH3 hb4
          have hR5 := Kd.R_below hR4 hb4
          have hx2 : w4.cell? ⟨g, x5_1.toNat * 3 + 2, none⟩ = some (.string ((rd_T59 x0_1 x5_1).f2)) := (Kd.H_at hH4 C4.out C3.out).1 2 _ rfl
          have hf2 : w4.frozen? ⟨g, x5_1.toNat * 3 + 2, none⟩ = false := (Kd.H_at hH4 C4.out C3.out).2 2
          have hH5 : Kd.H k59 59 (w4.setCell ⟨g, x5_1.toNat * 3 + 2, none⟩ (.string tx)) w0.heap.size (fun k_ => (P0_ k_ ∨ w.heap.size ≤ k_)) (.slice (some ⟨g, 0, none⟩) x0_1.length co) x0_1 x5_1 oki [.bool (Int.tmod x1_1 3 == 0), v2, .string tx] ∧ w4.grownBy (w4.setCell ⟨g, x5_1.toNat * 3 + 2, none⟩ (.string tx)) (some g) := Kd.H_seg hH4 C4.out C3.out (seg := [.string tx]) (j := 2) (show 3 ≤ 3 by decide) (fun q hq => by rw [List.mem_singleton.1 hq]; rfl)
          have hR6 := Kd.R_grown hR5 hH5.2 (fun k_ e_ e2 => (hoki.out k_ (HO.out k_ e_)).2 (Option.some.inj e2))
          have hS := Kd.H_back hH5.1 (k59_mkM _ w0.heap.size _ (⟨Int.tmod x1_1 3 == 0, ys, tx⟩ : S59) hR6) (fun k_ e_ => HO.out k_ e_)
          have HS := Aside0.mk hS
          have HK5 := Aside0.mk (Kept.setCell (hK4.below hb4) (p := ⟨g, x5_1.toNat * 3 + 2, none⟩) HPG.out (.string tx))
          have HB5 := Aside0.mk (below_set (below_step hB3 hb4) GB.out : Below w0.heap.size w0 (w4.setCell ⟨g, x5_1.toNat * 3 + 2, none⟩ (.string tx)))
          clear hR4 hH3 hK4 hH4 hR5 hH5 hR6 hS hR3 hB3 hK3 hb4
          go_wp2
          go_roundg k1
          case measure => have := HK1.out; omega
          case rel => exact ⟨_, _, _, rfl, rfl, H', ⟨by have := HK1.out; omega⟩, HS, HK5, HB5⟩
        · rw [if_neg c4] at H
          exact absurd H (by simp)
      · rw [if_neg c3] at H
        have c3b0 : decide (x5_1 < (x0_1.length : Int)) = false := decide_eq_false c3
        clear c3
        simp only [Option.some.injEq, Prod.mk.injEq] at H
        obtain ⟨rfl, rfl⟩ := H
        obtain ⟨Ao9, co9, eo9⟩ := Kd.S_slice HO_0.out
        subst eo9
        go_wp2
        go_ret
        exact ⟨rfl, HO_0.out, HB.out, HK.out⟩
/-! ### laws_markDisk: function 20, by hand -/
theorem types_apart {W : World} {k : Nat} {L L' : List Nat} (hd : ∀ q, q ∈ L → q ∉ L') (h : ∃ q, q ∈ L ∧ ∃ cells, W.heap[k]? = some (.cells cells q (0, 0))) (h' : ∃ q, q ∈ L' ∧ ∃ cells, W.heap[k]? = some (.cells cells q (0, 0))) : False := by
  obtain ⟨q, hq, c, e⟩ := h
  obtain ⟨q', hq', c', e'⟩ := h'
  rw [e] at e'
  injection e' with e'
  injection e' with _ e'
  subst e'
  exact hd _ hq hq'
theorem R_typed4 {W : World} {base : Nat} {ok : Nat → Prop} {v : Value} {xs : List Bool} (h : Kd.R Kd.bool 4 W base ok v xs) (k : Nat) (hk : some k = v.ownBlock) : ∃ q, q ∈ [4] ∧ ∃ cells, W.heap[k]? = some (.cells cells q (0, 0)) := by
  obtain ⟨c, e⟩ := Kd.R_typed h k hk.symm
  exact ⟨4, by simp, c, e⟩
set_option maxHeartbeats 2000000 in
set_option maxRecDepth 100000 in
theorem laws_markDisk.calls (k : Nat) (v0 v1 v2 v3 : Value) (l0 l1 : List Bool) (l2 : List S105) (l3 : List S59) (a1 m1 m2 m3 : Int) (r1 r2 : List Bool) (r3 : List S105) (r4 : List S59) (w0 w : World) (hB : Below w0.heap.size w0 w)
    (ho0 : Kd.R Kd.bool 4 w w0.heap.size (fun k_ => some k_ ≠ v1.ownBlock) v0 l0) (ho1 : Kd.R Kd.bool 4 w w0.heap.size (fun k_ => some k_ ≠ v0.ownBlock) v1 l1) (ho2 : Kd.S k105 105 w w0.heap.size (fun _ => True) v2 l2) (ho3 : Kd.S k59 59 w w0.heap.size (fun _ => True) v3 l3)
    (h1 : laws_markBits.f k l0 l1 a1 = some (m1, r1, r2)) (h2 : laws_markInodeS.f k l2 m1 = some (m2, r3)) (h3 : laws_markBlockS.f k l3 m2 = some (m3, r4)) :
    Calls Try.prog 20 #[.agg #[v0, v1, v2, v3], .int .i64 a1] w fun e w' => e = .returned (.int .i64 m3) ∧ Kd.R Kd.bool 4 w' w0.heap.size (fun _ => True) v0 r1 ∧ Kd.R Kd.bool 4 w' w0.heap.size (fun _ => True) v1 r2 ∧ Kd.S k105 105 w' w0.heap.size (fun _ => True) v2 r3 ∧ Kd.S k59 59 w' w0.heap.size (fun _ => True) v3 r4 ∧ Below w0.heap.size w0 w' ∧ ∀ (g q : Nat) (cells : Array Value), w.heap[g]? = some (Obj.cells cells q (0, 0)) → q ∉ [4, 105, 3, 59, 69] → w'.heap[g]? = some (Obj.cells cells q (0, 0)) := by
  have H1 := Aside0.mk h1
  have H2 := Aside0.mk h2
  have H3 := Aside0.mk h3
  have HB := Aside0.mk hB
  obtain ⟨A0, c0, rfl⟩ := Kd.R_slice ho0
  obtain ⟨A1, c1, rfl⟩ := Kd.R_slice ho1
  obtain ⟨A2, c2, rfl⟩ := Kd.S_slice ho2
  obtain ⟨A3, c3, rfl⟩ := Kd.S_slice ho3
  have HO0 := Aside0.mk ho0
  have HO1 := Aside0.mk ho1
  have HO2 := Aside0.mk ho2
  have HO3 := Aside0.mk ho3
  clear h1 h2 h3 hB ho0 ho1 ho2 ho3
  go_enter Try.func20, Try.ntmps20
  have hB0 := below_alloc HB.out (Obj.cells #[Value.slice A0 l0.length c0, Value.slice A1 l1.length c1, Value.slice A2 l2.length c2, Value.slice A3 l3.length c3] 39)
  have hbk := blk_new w (Obj.cells #[Value.slice A0 l0.length c0, Value.slice A1 l1.length c1, Value.slice A2 l2.length c2, Value.slice A3 l3.length c3] 39)
  have HB0 := Aside0.mk hB0
  have HBK := Aside0.mk hbk
  clear hB0 hbk
  go_wp2_with (go_at_call 9)
  refine (laws_markBits.calls k (fun k_ => some k_ = (Value.slice A0 l0.length c0).ownBlock) _ l0 (fun k_ => some k_ = (Value.slice A1 l1.length c1).ownBlock) _ l1 a1 m1 r1 r2 w0 _ HB0.out (Kd.R_alloc (Kd.R_tight rfl HO0.out) _) (fun k_ e1 e2 => HO0.out.1 k_ e1.symm e2) (Kd.R_alloc (Kd.R_tight rfl HO1.out) _) (fun k_ e1 e2 => HO1.out.1 k_ e1.symm e2) H1.out).mono ?_
  rintro e w1 ⟨rfl, hR0, hR1, hB1, hK1⟩
  have hb1 := blk_kept HBK.out hK1 (by
    rintro (e_ | e_)
    · exact absurd (Kd.R_lt HO0.out _ e_.symm) (Nat.lt_irrefl _)
    · exact absurd (Kd.R_lt HO1.out _ e_.symm) (Nat.lt_irrefl _))
  have hS2 := Kd.S_bound (Kd.S_kept (Kd.S_alloc (Kd.S_apart' (Kd.S_apart' HO2.out (Kd.R_typed HO0.out) (by decide)) (Kd.R_typed HO1.out) (by decide)) _) hK1 (fun k_ hk hs => hs.elim (fun e_ => hk.1.2 e_) (fun e_ => hk.2 e_)))
  have hS3 := Kd.S_bound (Kd.S_kept (Kd.S_alloc (Kd.S_apart' (Kd.S_apart' HO3.out (Kd.R_typed HO0.out) (by decide)) (Kd.R_typed HO1.out) (by decide)) _) hK1 (fun k_ hk hs => hs.elim (fun e_ => hk.1.2 e_) (fun e_ => hk.2 e_)))
  have R0 := Aside0.mk (Kd.R_tight rfl hR0)
  have R1 := Aside0.mk (Kd.R_tight rfl hR1)
  have S2 := Aside0.mk (Kd.S_mono hS2 (fun k_ hk => hk.2.2.2))
  have S3 := Aside0.mk (Kd.S_mono hS3 (fun k_ hk => hk.2.2.2))
  have B1 := Aside0.mk hB1
  have HBK1 := Aside0.mk hb1
  have hx1 : w1.cell? ⟨w.heap.size, 2, none⟩ = some (Value.slice A2 l2.length c2) := (blk_cell hb1 2).trans rfl
  have K1 := Aside0.mk hK1
  clear hR0 hR1 hB1 hK1 hb1 hS2 hS3
  go_wp2_with (go_at_call 9)
  refine (laws_markInodeS.calls k (fun k_ => ∃ q, q ∈ 105 :: k105.E ∧ ∃ cells, w1.heap[k_]? = some (.cells cells q (0, 0))) _ l2 m1 m2 r3 w0 _ B1.out S2.out H2.out).mono ?_
  rintro e w2 ⟨rfl, hS2, hB2, hK2⟩
  have hb2 := blk_kept HBK1.out hK2 (fun hs => types_apart (L := [39]) (L' := 105 :: k105.E) (by decide) ⟨39, by simp, _, HBK1.out⟩ hs)
  have hR0 := Kd.R_kept R0.out hK2 (fun k_ hk hs => types_apart (L := [4]) (L' := 105 :: k105.E) (by decide) (R_typed4 R0.out k_ hk) hs)
  have hR1 := Kd.R_kept R1.out hK2 (fun k_ hk hs => types_apart (L := [4]) (L' := 105 :: k105.E) (by decide) (R_typed4 R1.out k_ hk) hs)
  have hS3 := Kd.S_kept S3.out hK2 (fun k_ hk hs => types_apart (L := 59 :: k59.E) (L' := 105 :: k105.E) (by decide) hk hs)
  have R0' := Aside0.mk hR0
  have R1' := Aside0.mk hR1
  have S2' := Aside0.mk (Kd.S_mono (Kd.S_bound hS2) (fun k_ hk => hk.2.2.2))
  have S3' := Aside0.mk (Kd.S_mono (Kd.S_bound hS3) (fun k_ hk => hk.2.2.2))
  have B2 := Aside0.mk hB2
  have hx2 : w2.cell? ⟨w.heap.size, 3, none⟩ = some (Value.slice A3 l3.length c3) := (blk_cell hb2 3).trans rfl
  have K2 := Aside0.mk hK2
  clear hR0 hR1 hB2 hK2 hb2 hS2 hS3 hx1
  go_wp2_with (go_at_call 9)
  refine (laws_markBlockS.calls k (fun k_ => ∃ q, q ∈ 59 :: k59.E ∧ ∃ cells, w2.heap[k_]? = some (.cells cells q (0, 0))) _ l3 m2 m3 r4 w0 _ B2.out S3'.out H3.out).mono ?_
  rintro e w3 ⟨rfl, hS3, hB3, hK3⟩
  have hR0 := Aside0.mk (Kd.R_mono (Kd.R_kept R0'.out hK3 (fun k_ hk hs => types_apart (L := [4]) (L' := 59 :: k59.E) (by decide) (R_typed4 R0'.out k_ hk) hs)) (fun _ _ => trivial))
  have hR1 := Aside0.mk (Kd.R_mono (Kd.R_kept R1'.out hK3 (fun k_ hk hs => types_apart (L := [4]) (L' := 59 :: k59.E) (by decide) (R_typed4 R1'.out k_ hk) hs)) (fun _ _ => trivial))
  have hS2 := Aside0.mk (Kd.S_mono (Kd.S_kept S2'.out hK3 (fun k_ hk hs => types_apart (L := 105 :: k105.E) (L' := 59 :: k59.E) (by decide) hk hs)) (fun _ _ => trivial))
  have hS3' := Aside0.mk (Kd.S_mono hS3 (fun _ _ => trivial))
  have hB3' := Aside0.mk hB3
  have K3 := Aside0.mk hK3
  clear hS3 hB3 hK3 hx2
  go_wp2
  go_ret
  refine ⟨rfl, hR0.out, hR1.out, hS2.out, hS3'.out, hB3'.out, fun g q cells hgc hq => ?_⟩
  have n1 : ∀ y, y ∈ [q] → y ∉ [4] := fun y h1 h2 => hq (by rw [List.mem_singleton.1 h1] at h2; simp at h2 ⊢; omega)
  have n2 : ∀ y, y ∈ [q] → y ∉ 105 :: k105.E := fun y h1 h2 => hq (by rw [List.mem_singleton.1 h1] at h2; have h3 : q ∈ [105, 3] := h2; simp at h3 ⊢; omega)
  have n3 : ∀ y, y ∈ [q] → y ∉ 59 :: k59.E := fun y h1 h2 => hq (by rw [List.mem_singleton.1 h1] at h2; have h3 : q ∈ [59, 69] := h2; simp at h3 ⊢; omega)
  have a1 := blk_alloc hgc (Obj.cells #[Value.slice A0 l0.length c0, Value.slice A1 l1.length c1, Value.slice A2 l2.length c2, Value.slice A3 l3.length c3] 39)
  have a2 := blk_kept a1 K1.out (by
    rintro (e_ | e_)
    · exact types_apart (L := [q]) (L' := [4]) n1 ⟨q, by simp, _, hgc⟩ (R_typed4 HO0.out g e_)
    · exact types_apart (L := [q]) (L' := [4]) n1 ⟨q, by simp, _, hgc⟩ (R_typed4 HO1.out g e_))
  have a3 := blk_kept a2 K2.out (fun hs => types_apart (L := [q]) (L' := 105 :: k105.E) n2 ⟨q, by simp, _, a2⟩ hs)
  exact blk_kept a3 K3.out (fun hs => types_apart (L := [q]) (L' := 59 :: k59.E) n3 ⟨q, by simp, _, a3⟩ hs)
def Rd4 (W : World) (A0 : Option Addr) (c0 : Nat) (l0 : List Bool) (A1 : Option Addr) (c1 : Nat) (l1 : List Bool) (A2 : Option Addr) (c2 : Nat) (l2 : List S105) (A3 : Option Addr) (c3 : Nat) (l3 : List S59) : Prop := (Kd.C Kd.bool W A0 l0.length l0 ∧ l0.length ≤ c0) ∧ (Kd.C Kd.bool W A1 l1.length l1 ∧ l1.length ≤ c1) ∧ (Kd.C k105 W A2 l2.length l2 ∧ l2.length ≤ c2) ∧ (Kd.C k59 W A3 l3.length l3 ∧ l3.length ≤ c3)
theorem Rd4.below {W W' : World} {A0 : Option Addr} {c0 : Nat} {l0 : List Bool} {A1 : Option Addr} {c1 : Nat} {l1 : List Bool} {A2 : Option Addr} {c2 : Nat} {l2 : List S105} {A3 : Option Addr} {c3 : Nat} {l3 : List S59} (h : Rd4 W A0 c0 l0 A1 c1 l1 A2 c2 l2 A3 c3 l3) (hb : Below W.heap.size W W') : Rd4 W' A0 c0 l0 A1 c1 l1 A2 c2 l2 A3 c3 l3 :=
  ⟨⟨Kd.C_below h.1.1 hb, h.1.2⟩, ⟨Kd.C_below h.2.1.1 hb, h.2.1.2⟩, ⟨Kd.C_below h.2.2.1.1 hb, h.2.2.1.2⟩, ⟨Kd.C_below h.2.2.2.1 hb, h.2.2.2.2⟩⟩
def RdD (W : World) (A : Option Addr) (c : Nat) (l : List ByteArray) : Prop := Kd.C Kd.string W A l.length l ∧ l.length ≤ c
theorem RdD.below {W W' : World} {A : Option Addr} {c : Nat} {l : List ByteArray} (h : RdD W A c l) (hb : Below W.heap.size W W') : RdD W' A c l := ⟨Kd.C_below h.1 hb, h.2⟩
theorem szDev_calls (k : Nat) {A : Option Addr} {c : Nat} {l : List ByteArray} {W : World} (hA : RdD W A c l) {a1 r : Int} (h : laws_szDevice.f k l a1 = some r) : Calls Try.prog 23 #[.agg #[.slice A l.length c], .int .i64 a1] W fun e w' => e = .returned (.int .i64 r) ∧ Below W.heap.size W w' :=
  laws_szDevice.calls k A c l a1 r W hA.1 hA.2 h
theorem toDev_calls (k : Nat) {A : Option Addr} {c : Nat} {l : List ByteArray} {W : World} (hA : RdD W A c l) {t : List ByteArray} (h : laws_toDevice.f k l = some t) : Calls Try.prog 25 #[.agg #[.slice A l.length c]] W fun e w' => ∃ E e', e = .returned (.agg #[Value.slice E t.length e']) ∧ RdD w' E e' t ∧ Kd.R Kd.string 9 w' W.heap.size (fun _ => True) (Value.slice E t.length e') t ∧ Below W.heap.size W w' := by
  refine (laws_toDevice.calls k A c l t W hA.1 hA.2 h).mono ?_
  rintro e w' ⟨v, rfl, hv, hb⟩
  obtain ⟨E, e', rfl⟩ := Kd.R_slice hv
  exact ⟨E, e', rfl, ⟨(Kd.R_reads' hv).2.2, (Kd.R_reads' hv).2.1⟩, hv, hb⟩
theorem specDisk_calls (k : Nat) {A : Option Addr} {c : Nat} {l : List ByteArray} {W : World} (hA : RdD W A c l) {t0 t1 : List Bool} {t2 : List S105} {t3 : List S59} {b : Bool} (h : spec_DiskOf.f k l = some (t0, t1, t2, t3, b)) : Calls Try.prog 24 #[.agg #[.slice A l.length c]] W fun e w' => ∃ D0 d0 D1 d1 D2 d2 D3 d3, e = .returned (.tuple #[.agg #[Value.slice D0 t0.length d0, Value.slice D1 t1.length d1, Value.slice D2 t2.length d2, Value.slice D3 t3.length d3], .bool b]) ∧ Rd4 w' D0 d0 t0 D1 d1 t1 D2 d2 t2 D3 d3 t3 ∧ Kd.R Kd.bool 4 w' W.heap.size (fun k_ => some k_ ≠ (Value.slice D1 t1.length d1).ownBlock) (Value.slice D0 t0.length d0) t0 ∧ Kd.R Kd.bool 4 w' W.heap.size (fun k_ => some k_ ≠ (Value.slice D0 t0.length d0).ownBlock) (Value.slice D1 t1.length d1) t1 ∧ Kd.S k105 105 w' W.heap.size (fun _ => True) (Value.slice D2 t2.length d2) t2 ∧ Kd.S k59 59 w' W.heap.size (fun _ => True) (Value.slice D3 t3.length d3) t3 ∧ Below W.heap.size W w' := by
  refine (spec_DiskOf.calls k A c l t0 t1 t2 t3 b W hA.1 hA.2 h).mono ?_
  rintro e w' ⟨v0, v1, v2, v3, rfl, hv0, hv1, hv2, hv3, hb⟩
  obtain ⟨D0, d0, rfl⟩ := Kd.R_slice hv0
  obtain ⟨D1, d1, rfl⟩ := Kd.R_slice hv1
  obtain ⟨D2, d2, rfl⟩ := Kd.S_slice hv2
  obtain ⟨D3, d3, rfl⟩ := Kd.S_slice hv3
  exact ⟨D0, d0, D1, d1, D2, d2, D3, d3, rfl, ⟨(Kd.R_reads' hv0).2.symm, (Kd.R_reads' hv1).2.symm, (Kd.S_reads' hv2).2.symm, (Kd.S_reads' hv3).2.symm⟩, hv0, hv1, hv2, hv3, hb⟩
theorem implDisk_calls (k : Nat) {A : Option Addr} {c : Nat} {l : List ByteArray} {W : World} (hA : RdD W A c l) {t0 t1 : List Bool} {t2 : List S105} {t3 : List S59} {b : Bool} (h : impl_DiskOf.f k l = some (t0, t1, t2, t3, b)) : Calls Try.prog 26 #[.agg #[.slice A l.length c]] W fun e w' => ∃ D0 d0 D1 d1 D2 d2 D3 d3, e = .returned (.tuple #[.agg #[Value.slice D0 t0.length d0, Value.slice D1 t1.length d1, Value.slice D2 t2.length d2, Value.slice D3 t3.length d3], .bool b]) ∧ Rd4 w' D0 d0 t0 D1 d1 t1 D2 d2 t2 D3 d3 t3 ∧ Kd.R Kd.bool 4 w' W.heap.size (fun k_ => some k_ ≠ (Value.slice D1 t1.length d1).ownBlock) (Value.slice D0 t0.length d0) t0 ∧ Kd.R Kd.bool 4 w' W.heap.size (fun k_ => some k_ ≠ (Value.slice D0 t0.length d0).ownBlock) (Value.slice D1 t1.length d1) t1 ∧ Kd.S k105 105 w' W.heap.size (fun _ => True) (Value.slice D2 t2.length d2) t2 ∧ Kd.S k59 59 w' W.heap.size (fun _ => True) (Value.slice D3 t3.length d3) t3 ∧ Below W.heap.size W w' := by
  refine (impl_DiskOf.calls k A c l t0 t1 t2 t3 b W hA.1 hA.2 h).mono ?_
  rintro e w' ⟨v0, v1, v2, v3, rfl, hv0, hv1, hv2, hv3, hb⟩
  obtain ⟨D0, d0, rfl⟩ := Kd.R_slice hv0
  obtain ⟨D1, d1, rfl⟩ := Kd.R_slice hv1
  obtain ⟨D2, d2, rfl⟩ := Kd.S_slice hv2
  obtain ⟨D3, d3, rfl⟩ := Kd.S_slice hv3
  exact ⟨D0, d0, D1, d1, D2, d2, D3, d3, rfl, ⟨(Kd.R_reads' hv0).2.symm, (Kd.R_reads' hv1).2.symm, (Kd.S_reads' hv2).2.symm, (Kd.S_reads' hv3).2.symm⟩, hv0, hv1, hv2, hv3, hb⟩
theorem eqDev_calls (k : Nat) {A : Option Addr} {c : Nat} {l : List ByteArray} {B : Option Addr} {e : Nat} {n : List ByteArray} {W : World} (hA : RdD W A c l) (hB : RdD W B e n) (h : laws_eqDevice.f k l n = some true) : Calls Try.prog 18 #[.agg #[.slice A l.length c], .agg #[.slice B n.length e]] W fun e w' => e = .returned (.bool true) ∧ Below W.heap.size W w' :=
  laws_eqDevice.calls k A c l B e n true W hA.1 hA.2 hB.1 hB.2 h
theorem eqDisk_calls (k : Nat) {A0 : Option Addr} {c0 : Nat} {l0 : List Bool} {A1 : Option Addr} {c1 : Nat} {l1 : List Bool} {A2 : Option Addr} {c2 : Nat} {l2 : List S105} {A3 : Option Addr} {c3 : Nat} {l3 : List S59} {B0 : Option Addr} {e0 : Nat} {n0 : List Bool} {B1 : Option Addr} {e1 : Nat} {n1 : List Bool} {B2 : Option Addr} {e2 : Nat} {n2 : List S105} {B3 : Option Addr} {e3 : Nat} {n3 : List S59} {W : World} (hA : Rd4 W A0 c0 l0 A1 c1 l1 A2 c2 l2 A3 c3 l3) (hB : Rd4 W B0 e0 n0 B1 e1 n1 B2 e2 n2 B3 e3 n3) (h : laws_eqDisk.f k l0 l1 l2 l3 n0 n1 n2 n3 = some true) : Calls Try.prog 19 #[.agg #[Value.slice A0 l0.length c0, Value.slice A1 l1.length c1, Value.slice A2 l2.length c2, Value.slice A3 l3.length c3], .agg #[Value.slice B0 n0.length e0, Value.slice B1 n1.length e1, Value.slice B2 n2.length e2, Value.slice B3 n3.length e3]] W fun e w' => e = .returned (.bool true) ∧ Below W.heap.size W w' :=
  laws_eqDisk.calls k A0 c0 l0 A1 c1 l1 A2 c2 l2 A3 c3 l3 B0 e0 n0 B1 e1 n1 B2 e2 n2 B3 e3 n3 true W hA.1.1 hA.1.2 hA.2.1.1 hA.2.1.2 hA.2.2.1.1 hA.2.2.1.2 hA.2.2.2.1 hA.2.2.2.2 hB.1.1 hB.1.2 hB.2.1.1 hB.2.1.2 hB.2.2.1.1 hB.2.2.1.2 hB.2.2.2.1 hB.2.2.2.2 h
theorem heldDisk_calls (k : Nat) {A0 : Option Addr} {c0 : Nat} {l0 : List Bool} {A1 : Option Addr} {c1 : Nat} {l1 : List Bool} {A2 : Option Addr} {c2 : Nat} {l2 : List S105} {A3 : Option Addr} {c3 : Nat} {l3 : List S59} {a1 r : Int} {W : World} (hA : Rd4 W A0 c0 l0 A1 c1 l1 A2 c2 l2 A3 c3 l3) (h : laws_heldDisk.f k l0 l1 l2 l3 a1 = some r) : Calls Try.prog 27 #[.agg #[Value.slice A0 l0.length c0, Value.slice A1 l1.length c1, Value.slice A2 l2.length c2, Value.slice A3 l3.length c3], .int .i64 a1] W fun e w' => e = .returned (.int .i64 r) ∧ Below W.heap.size W w' :=
  laws_heldDisk.calls k A0 c0 l0 A1 c1 l1 A2 c2 l2 A3 c3 l3 a1 r W hA.1.1 hA.1.2 hA.2.1.1 hA.2.1.2 hA.2.2.1.1 hA.2.2.1.2 hA.2.2.2.1 hA.2.2.2.2 h
theorem markDev_calls (k : Nat) {P : Nat → Prop} {u : Value} {l : List ByteArray} {a r : Int} {rs : List ByteArray} {w0 w : World} (hB : Below w0.heap.size w0 w) (ho : Kd.R Kd.string 9 w w0.heap.size P u l) (h : laws_markDevice.f k l a = some (r, rs)) : Calls Try.prog 21 #[.agg #[u], .int .i64 a] w fun e w' => e = .returned (.int .i64 r) ∧ Kd.R Kd.string 9 w' w0.heap.size (fun k_ => (P k_ ∨ w.heap.size ≤ k_)) u rs ∧ Below w0.heap.size w0 w' ∧ Kept w w' (fun k_ => P k_) :=
  laws_markDevice.calls k P u l a r rs w0 w hB ho h
end Go.Proofs.Ytdnbpapolckklaa.PFnExactDiskOf
