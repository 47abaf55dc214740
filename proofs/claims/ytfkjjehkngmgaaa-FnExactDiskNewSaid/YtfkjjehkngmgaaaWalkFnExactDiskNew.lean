/- FnExactDiskNew: the marks into rows of rows, by hand; the law's walk, by hand; what its functions answer, by computation. -/
import Derived.Test.YtfkjjehkngmgaaaPFnExactDiskNewx7
import Derived.Test.YtfkjjehkngmgaaaPFnExactDiskNewx8
import Derived.Test.YtfkjjehkngmgaaaPFnExactDiskNewx10
import Derived.Test.YtfkjjehkngmgaaaPFnExactDiskNewx2
import Derived.Test.YtfkjjehkngmgaaaPFnExactDiskNewx4
namespace Go.Proofs.Ytfkjjehkngmgaaa.PFnExactDiskNew
open Go Go.RowKit Go.Proofs.YtfkjjehkngmgaaaW.PrintWords Go.Proofs.YtfkjjehkngmgaaaW.PrintLast Go.Proofs.YtfkjjehkngmgaaaW.PrintMore
set_option linter.unusedVariables false
set_option linter.unusedSimpArgs false
/-! ### laws_markInodeS: function 110, by hand -/
def laws_markInodeS.l0 : Nat → List S34 → Int → Int → Option (Int × List S34)
  | 0, _, _, _ => none
  | k + 1, x0, x1, x5 => if x5 < (x0.length : Int) then (if 0 ≤ x5 then ((laws_markIntS.f k (rd_T34 x0 x5).f2 (wrap64 (wrap64 (x1 + 1) + 1))).bind fun bt => laws_markInodeS.l0 k (x0.set (x5 : Int).toNat ⟨x1, wrap64 (x1 + 1), bt.2⟩) bt.1 (wrap64 (x5 + 1))) else none) else some (x1, x0)
def laws_markInodeS.f (k : Nat) (l0 : List S34) (a1 : Int) : Option (Int × List S34) := laws_markInodeS.l0 k l0 a1 0
theorem setCells_one (W : World) (g j : Nat) (v : Value) : W.setCells g j [v] = W.setCell ⟨g, j, none⟩ v := rfl
set_option maxHeartbeats 2000000 in
set_option maxRecDepth 100000 in
theorem laws_markInodeS.calls (k : Nat) (P0_ : Nat → Prop) (u9000_ : Value) (l0 : List S34) (a1 : Int) (r1 : Int) (r2 : List S34) (w0 w : World) (hB : Below w0.heap.size w0 w) (ho0 : Kd.S k34 34 w w0.heap.size P0_ u9000_ l0) (h : laws_markInodeS.f k l0 a1 = some (r1, r2)) :
    Calls Try.prog 110 #[u9000_, .int .i64 a1] w fun e w' => e = .returned (.int .i64 r1) ∧ Kd.S k34 34 w' w0.heap.size (fun k_ => (P0_ k_ ∨ w.heap.size ≤ k_)) u9000_ r2 ∧ Below w0.heap.size w0 w' ∧ Kept w w' (fun k_ => P0_ k_) := by
  have HO0 := Aside0.mk (show Kd.S k34 34 w w0.heap.size (fun k_ => (P0_ k_ ∨ w.heap.size ≤ k_)) u9000_ l0 from Kd.S_mono ho0 (fun k_ hk => (.inl hk)))
  have HK := Aside0.mk (Kept.refl w (fun k_ => P0_ k_))
  have HB := Aside0.mk hB
  clear hB
  have H' := Aside0.mk (show (laws_markInodeS.l0 k l0 a1 0) = some (r1, r2) from h)
  clear h ho0
  go_enter Try.func110, Try.ntmps110
  go_wp2
  go_loopg [1, 5] k (fun kq v1 v5 w' => ∃ (x0_1 : List S34) (x1_1 : Int) (x5_1 : Int), v1 = .int .i64 x1_1 ∧ v5 = .int .i64 x5_1 ∧ Aside0 (laws_markInodeS.l0 kq x0_1 x1_1 x5_1 = some (r1, r2)) ∧ Aside0 (kq ≤ k) ∧ Aside0 (Kd.S k34 34 w' w0.heap.size (fun k_ => (P0_ k_ ∨ w.heap.size ≤ k_)) u9000_ x0_1) ∧ Aside0 (Kept w w' (fun k_ => P0_ k_)) ∧ Aside0 (Below w0.heap.size w0 w'))
  case atStart => exact ⟨l0, a1, 0, rfl, rfl, H', ⟨Nat.le_refl _⟩, HO0, HK, HB⟩
  case round =>
    clear H'
    try clear p2
    obtain ⟨x0_1, x1_1, x5_1, rfl, rfl, HA, HK1, HO_0, HK, HB⟩ := hrel
    cases gk with
    | zero => exact absurd HA.out (by simp [laws_markInodeS.l0])
    | succ k1 =>
      have H := HA.out
      clear HA
      simp only [laws_markInodeS.l0] at H
      by_cases c3 : x5_1 < (x0_1.length : Int)
      · rw [if_pos c3] at H
        have c3b0 : decide (x5_1 < (x0_1.length : Int)) = true := decide_eq_true c3
        by_cases c4 : 0 ≤ x5_1
        · rw [if_pos c4] at H
          have c4b0 : decide (0 ≤ x5_1) = true := decide_eq_true c4
          replace H := Option.bind_eq_some_iff.mp H
          obtain ⟨⟨m1, ys⟩, A5, H⟩ := H
          have A5 := Aside0.mk A5
          have H' := Aside0.mk H
          clear H
          obtain ⟨g, co, eo, gb, gl, cl, HG⟩ := Kd.S_form HO_0.out (by omega)
          subst eo
          obtain ⟨oki, ce, hcl, hM, hcc, hfr, hoki, hH⟩ := Kd.S_elem HO_0.out z34 x5_1 c4 c3
          obtain ⟨v2, rfl, gR⟩ := k34_openM hM
          have hx0 : wr.cell? ⟨g, x5_1.toNat * 3, none⟩ = some (.int .i64 ((rd_T34 x0_1 x5_1).f0)) := hcc 0 _ rfl
          have hx1 : wr.cell? ⟨g, x5_1.toNat * 3 + 1, none⟩ = some (.int .i64 ((rd_T34 x0_1 x5_1).f1)) := hcc 1 _ rfl
          have hx2 : wr.cell? ⟨g, x5_1.toNat * 3 + 2, none⟩ = some v2 := hcc 2 _ rfl
          have hf0 : wr.frozen? ⟨g, x5_1.toNat * 3, none⟩ = false := hfr 0
          have hf1 : wr.frozen? ⟨g, x5_1.toNat * 3 + 1, none⟩ = false := hfr 1
          have p5 := eq_true c4
          have q5 := eq_true c3
          have hH := Aside0.mk hH
          have gR := Aside0.mk gR
          have hoki := Aside0.mk hoki
          have GB := Aside0.mk gb
          clear hcc hfr hM HG gb gl cl hcl
          have hH1 : Kd.H k34 34 (wr.setCell ⟨g, x5_1.toNat * 3, none⟩ (.int .i64 x1_1)) w0.heap.size (fun k_ => (P0_ k_ ∨ w.heap.size ≤ k_)) (.slice (some ⟨g, 0, none⟩) x0_1.length co) x0_1 x5_1 oki [.int .i64 x1_1, .int .i64 ((rd_T34 x0_1 x5_1).f1), v2] ∧ wr.grownBy (wr.setCell ⟨g, x5_1.toNat * 3, none⟩ (.int .i64 x1_1)) (some g) := Kd.H_seg hH.out c4 c3 (seg := [.int .i64 x1_1]) (j := 0) (show 1 ≤ 3 by decide) (fun q hq => by rw [List.mem_singleton.1 hq]; rfl)
          have hH2 : Kd.H k34 34 ((wr.setCell ⟨g, x5_1.toNat * 3, none⟩ (.int .i64 x1_1)).setCell ⟨g, x5_1.toNat * 3 + 1, none⟩ (.int .i64 (wrap64 (x1_1 + 1)))) w0.heap.size (fun k_ => (P0_ k_ ∨ w.heap.size ≤ k_)) (.slice (some ⟨g, 0, none⟩) x0_1.length co) x0_1 x5_1 oki [.int .i64 x1_1, .int .i64 (wrap64 (x1_1 + 1)), v2] ∧ (wr.setCell ⟨g, x5_1.toNat * 3, none⟩ (.int .i64 x1_1)).grownBy ((wr.setCell ⟨g, x5_1.toNat * 3, none⟩ (.int .i64 x1_1)).setCell ⟨g, x5_1.toNat * 3 + 1, none⟩ (.int .i64 (wrap64 (x1_1 + 1)))) (some g) := Kd.H_seg hH1.1 c4 c3 (seg := [.int .i64 (wrap64 (x1_1 + 1))]) (j := 1) (show 2 ≤ 3 by decide) (fun q hq => by rw [List.mem_singleton.1 hq]; rfl)
          have hown : ∀ k_, some k_ = v2.ownBlock → oki k_ := fun k_ e_ => gR.out.1 k_ e_.symm
          have hgown : ∀ k_, some k_ = v2.ownBlock → some k_ ≠ some g := fun k_ e_ e2 => (hoki.out k_ (hown k_ e_)).2 (Option.some.inj e2)
          have HR2 := Aside0.mk (Kd.R_grown (Kd.R_grown (Kd.R_tight rfl gR.out) hH1.2 (fun k_ e_ => hgown k_ e_)) hH2.2 (fun k_ e_ => hgown k_ e_))
          have HB2 := Aside0.mk (below_set (below_set HB.out GB.out) GB.out : Below w0.heap.size w0 ((wr.setCell ⟨g, x5_1.toNat * 3, none⟩ (.int .i64 x1_1)).setCell ⟨g, x5_1.toNat * 3 + 1, none⟩ (.int .i64 (wrap64 (x1_1 + 1)))))
          have hPg : P0_ g ∨ w.heap.size ≤ g := (Kd.S_R HO_0.out).1 g rfl
          have HK2 := Aside0.mk (Kept.setCell (Kept.setCell HK.out (p := ⟨g, x5_1.toNat * 3, none⟩) hPg (.int .i64 x1_1)) (p := ⟨g, x5_1.toNat * 3 + 1, none⟩) hPg (.int .i64 (wrap64 (x1_1 + 1))))
          have HH2 := Aside0.mk hH2.1
          have HO := Aside0.mk hown
          clear hH1 hH2 hgown hPg hown c3 c4
          go_wp2_with (go_at_call 85; refine (laws_markIntS.calls k1 (fun k_ => some k_ = v2.ownBlock) v2 (rd_T34 x0_1 x5_1).f2 _ m1 ys w0 _ HB2.out HR2.out A5.out).mono ?_; rintro e w3 ⟨rfl, hR3, hB3, hK3⟩)
          have hR4 := Kd.R_tight rfl hR3
          have hH3 := Kd.H_kept HH2.out hK3 (fun k_ _ hn he => hn (HO.out k_ he))
          have hS := Kd.H_back hH3 (k34_mkM w3 w0.heap.size _ (⟨x1_1, wrap64 (x1_1 + 1), ys⟩ : S34) hR4) (fun k_ e_ => HO.out k_ e_)
          have hK4 := Kept.then_ HK2.out hK3 (fun k_ e_ => (hoki.out k_ (HO.out k_ e_)).1)
          go_roundg k1
          case measure => have := HK1.out; omega
          case rel => exact ⟨_, m1, _, rfl, rfl, H', ⟨by have := HK1.out; omega⟩, ⟨hS⟩, ⟨hK4⟩, ⟨hB3⟩⟩
        · rw [if_neg c4] at H
          exact absurd H (by simp)
      · rw [if_neg c3] at H
        have c3b0 : decide (x5_1 < (x0_1.length : Int)) = false := decide_eq_false c3
        clear c3
        simp only [Option.some.injEq, Prod.mk.injEq] at H
        obtain ⟨rfl, rfl⟩ := H
        obtain ⟨Ao9, co9, eo9⟩ := Kd.S_slice HO_0.out
        subst eo9
        go_wp2
        go_ret
        exact ⟨rfl, HO_0.out, HB.out, HK.out⟩
/-! ### laws_markBlockS: function 111, by hand -/
def laws_markBlockS.l0 : Nat → List S24 → Int → Int → Option (Int × List S24)
  | 0, _, _, _ => none
  | k + 1, x0, x1, x5 => if x5 < (x0.length : Int) then (if 0 ≤ x5 then ((laws_markSlotS.f k (rd_T24 x0 x5).f1 (wrap64 (x1 + 1))).bind fun bt => (laws_markText.f k bt.1).bind fun t => laws_markBlockS.l0 k (x0.set (x5 : Int).toNat ⟨Int.tmod x1 3 == 0, bt.2, t⟩) (wrap64 (bt.1 + 1)) (wrap64 (x5 + 1))) else none) else some (x1, x0)
def laws_markBlockS.f (k : Nat) (l0 : List S24) (a1 : Int) : Option (Int × List S24) := laws_markBlockS.l0 k l0 a1 0
set_option maxHeartbeats 2000000 in
set_option maxRecDepth 100000 in
theorem laws_markBlockS.calls (k : Nat) (P0_ : Nat → Prop) (u9000_ : Value) (l0 : List S24) (a1 : Int) (r1 : Int) (r2 : List S24) (w0 w : World) (hB : Below w0.heap.size w0 w) (ho0 : Kd.S k24 24 w w0.heap.size P0_ u9000_ l0) (h : laws_markBlockS.f k l0 a1 = some (r1, r2)) :
    Calls Try.prog 111 #[u9000_, .int .i64 a1] w fun e w' => e = .returned (.int .i64 r1) ∧ Kd.S k24 24 w' w0.heap.size (fun k_ => (P0_ k_ ∨ w.heap.size ≤ k_)) u9000_ r2 ∧ Below w0.heap.size w0 w' ∧ Kept w w' (fun k_ => P0_ k_) := by
  have HO0 := Aside0.mk (show Kd.S k24 24 w w0.heap.size (fun k_ => (P0_ k_ ∨ w.heap.size ≤ k_)) u9000_ l0 from Kd.S_mono ho0 (fun k_ hk => (.inl hk)))
  have HK := Aside0.mk (Kept.refl w (fun k_ => P0_ k_))
  have HB := Aside0.mk hB
  clear hB
  have H' := Aside0.mk (show (laws_markBlockS.l0 k l0 a1 0) = some (r1, r2) from h)
  clear h ho0
  go_enter Try.func111, Try.ntmps111
  go_wp2
  go_loopg [1, 5] k (fun kq v1 v5 w' => ∃ (x0_1 : List S24) (x1_1 : Int) (x5_1 : Int), v1 = .int .i64 x1_1 ∧ v5 = .int .i64 x5_1 ∧ Aside0 (laws_markBlockS.l0 kq x0_1 x1_1 x5_1 = some (r1, r2)) ∧ Aside0 (kq ≤ k) ∧ Aside0 (Kd.S k24 24 w' w0.heap.size (fun k_ => (P0_ k_ ∨ w.heap.size ≤ k_)) u9000_ x0_1) ∧ Aside0 (Kept w w' (fun k_ => P0_ k_)) ∧ Aside0 (Below w0.heap.size w0 w'))
  case atStart => exact ⟨l0, a1, 0, rfl, rfl, H', ⟨Nat.le_refl _⟩, HO0, HK, HB⟩
  case round =>
    clear H'
    try clear p2
    obtain ⟨x0_1, x1_1, x5_1, rfl, rfl, HA, HK1, HO_0, HK, HB⟩ := hrel
    cases gk with
    | zero => exact absurd HA.out (by simp [laws_markBlockS.l0])
    | succ k1 =>
      have H := HA.out
      clear HA
      simp only [laws_markBlockS.l0] at H
      by_cases c3 : x5_1 < (x0_1.length : Int)
      · rw [if_pos c3] at H
        have c3b0 : decide (x5_1 < (x0_1.length : Int)) = true := decide_eq_true c3
        by_cases c4 : 0 ≤ x5_1
        · rw [if_pos c4] at H
          have c4b0 : decide (0 ≤ x5_1) = true := decide_eq_true c4
          replace H := Option.bind_eq_some_iff.mp H
          obtain ⟨⟨m1, ys⟩, A5, H⟩ := H
          have A5 := Aside0.mk A5
          replace H := Option.bind_eq_some_iff.mp H
          obtain ⟨tx, A6, H⟩ := H
          have A6 := Aside0.mk A6
          have H' := Aside0.mk H
          clear H
          obtain ⟨g, co, eo, gb, gl, cl, HG⟩ := Kd.S_form HO_0.out (by omega)
          subst eo
          obtain ⟨oki, ce, hcl, hM, hcc, hfr, hoki, hH⟩ := Kd.S_elem HO_0.out z24 x5_1 c4 c3
          obtain ⟨v2, rfl, gR⟩ := k24_openM hM
          have hx0 : wr.cell? ⟨g, x5_1.toNat * 3, none⟩ = some (.bool ((rd_T24 x0_1 x5_1).f0)) := hcc 0 _ rfl
          have hx1 : wr.cell? ⟨g, x5_1.toNat * 3 + 1, none⟩ = some v2 := hcc 1 _ rfl
          have hf0 : wr.frozen? ⟨g, x5_1.toNat * 3, none⟩ = false := hfr 0
          have p5 := eq_true c4
          have q5 := eq_true c3
          have hH := Aside0.mk hH
          have gR := Aside0.mk gR
          have hoki := Aside0.mk hoki
          have GB := Aside0.mk gb
          have GL := Aside0.mk gl
          clear hcc hfr hM HG gb gl cl hcl
          have hH1 : Kd.H k24 24 (wr.setCell ⟨g, x5_1.toNat * 3, none⟩ (.bool (Int.tmod x1_1 3 == 0))) w0.heap.size (fun k_ => (P0_ k_ ∨ w.heap.size ≤ k_)) (.slice (some ⟨g, 0, none⟩) x0_1.length co) x0_1 x5_1 oki [.bool (Int.tmod x1_1 3 == 0), v2, .string ((rd_T24 x0_1 x5_1).f2)] ∧ wr.grownBy (wr.setCell ⟨g, x5_1.toNat * 3, none⟩ (.bool (Int.tmod x1_1 3 == 0))) (some g) := Kd.H_seg hH.out c4 c3 (seg := [.bool (Int.tmod x1_1 3 == 0)]) (j := 0) (show 1 ≤ 3 by decide) (fun q hq => by rw [List.mem_singleton.1 hq]; rfl)
          have hown : ∀ k_, some k_ = v2.ownBlock → oki k_ := fun k_ e_ => gR.out.1 k_ e_.symm
          have hgown : ∀ k_, some k_ = v2.ownBlock → some k_ ≠ some g := fun k_ e_ e2 => (hoki.out k_ (hown k_ e_)).2 (Option.some.inj e2)
          have HR2 := Aside0.mk (Kd.R_grown (Kd.R_tight rfl gR.out) hH1.2 (fun k_ e_ => hgown k_ e_))
          have HB2 := Aside0.mk (below_set HB.out GB.out : Below w0.heap.size w0 (wr.setCell ⟨g, x5_1.toNat * 3, none⟩ (.bool (Int.tmod x1_1 3 == 0))))
          have hPg : P0_ g ∨ w.heap.size ≤ g := (Kd.S_R HO_0.out).1 g rfl
          have HPG := Aside0.mk hPg
          have HK2 := Aside0.mk (Kept.setCell HK.out (p := ⟨g, x5_1.toNat * 3, none⟩) hPg (.bool (Int.tmod x1_1 3 == 0)))
          have HH2 := Aside0.mk hH1.1
          have HO := Aside0.mk hown
          have C3 := Aside0.mk c3
          have C4 := Aside0.mk c4
          clear hH1 hgown hPg hown c3 c4
          go_wp2_with (go_at_call 69; refine (laws_markSlotS.calls k1 (fun k_ => some k_ = v2.ownBlock) v2 (rd_T24 x0_1 x5_1).f1 _ m1 ys w0 _ HB2.out HR2.out A5.out).mono ?_; rintro e w3 ⟨rfl, hR3, hB3, hK3⟩)
          have hR4 := Kd.R_tight rfl hR3
          have hH3 := Kd.H_kept HH2.out hK3 (fun k_ _ hn he => hn (HO.out k_ he))
          have hK4 := Kept.then_ HK2.out hK3 (fun k_ e_ => (hoki.out k_ (HO.out k_ e_)).1)
          with_reducible refine (laws_markText.calls k1 m1 tx _ A6.out).mono ?_
          rintro e w4 ⟨rfl, hb4⟩
          have hH4 := Kd.H_below hH3 hb4
          have hR5 := Kd.R_below hR4 hb4
          have hx2 : w4.cell? ⟨g, x5_1.toNat * 3 + 2, none⟩ = some (.string ((rd_T24 x0_1 x5_1).f2)) := (Kd.H_at hH4 C4.out C3.out).1 2 _ rfl
          have hf2 : w4.frozen? ⟨g, x5_1.toNat * 3 + 2, none⟩ = false := (Kd.H_at hH4 C4.out C3.out).2 2
          have hH5 : Kd.H k24 24 (w4.setCell ⟨g, x5_1.toNat * 3 + 2, none⟩ (.string tx)) w0.heap.size (fun k_ => (P0_ k_ ∨ w.heap.size ≤ k_)) (.slice (some ⟨g, 0, none⟩) x0_1.length co) x0_1 x5_1 oki [.bool (Int.tmod x1_1 3 == 0), v2, .string tx] ∧ w4.grownBy (w4.setCell ⟨g, x5_1.toNat * 3 + 2, none⟩ (.string tx)) (some g) := Kd.H_seg hH4 C4.out C3.out (seg := [.string tx]) (j := 2) (show 3 ≤ 3 by decide) (fun q hq => by rw [List.mem_singleton.1 hq]; rfl)
          have hR6 := Kd.R_grown hR5 hH5.2 (fun k_ e_ e2 => (hoki.out k_ (HO.out k_ e_)).2 (Option.some.inj e2))
          have hS := Kd.H_back hH5.1 (k24_mkM _ w0.heap.size _ (⟨Int.tmod x1_1 3 == 0, ys, tx⟩ : S24) hR6) (fun k_ e_ => HO.out k_ e_)
          have HS := Aside0.mk hS
          have HK5 := Aside0.mk (Kept.setCell (hK4.below hb4) (p := ⟨g, x5_1.toNat * 3 + 2, none⟩) HPG.out (.string tx))
          have HB5 := Aside0.mk (below_set (below_step hB3 hb4) GB.out : Below w0.heap.size w0 (w4.setCell ⟨g, x5_1.toNat * 3 + 2, none⟩ (.string tx)))
          clear hR4 hH3 hK4 hH4 hR5 hH5 hR6 hS hR3 hB3 hK3 hb4
          go_wp2
          go_roundg k1
          case measure => have := HK1.out; omega
          case rel => exact ⟨_, _, _, rfl, rfl, H', ⟨by have := HK1.out; omega⟩, HS, HK5, HB5⟩
        · rw [if_neg c4] at H
          exact absurd H (by simp)
      · rw [if_neg c3] at H
        have c3b0 : decide (x5_1 < (x0_1.length : Int)) = false := decide_eq_false c3
        clear c3
        simp only [Option.some.injEq, Prod.mk.injEq] at H
        obtain ⟨rfl, rfl⟩ := H
        obtain ⟨Ao9, co9, eo9⟩ := Kd.S_slice HO_0.out
        subst eo9
        go_wp2
        go_ret
        exact ⟨rfl, HO_0.out, HB.out, HK.out⟩
/-! ### laws_markDisk: function 66, by hand -/
theorem types_apart {W : World} {k : Nat} {L L' : List Nat} (hd : ∀ q, q ∈ L → q ∉ L') (h : ∃ q, q ∈ L ∧ ∃ cells, W.heap[k]? = some (.cells cells q (0, 0))) (h' : ∃ q, q ∈ L' ∧ ∃ cells, W.heap[k]? = some (.cells cells q (0, 0))) : False := by
  obtain ⟨q, hq, c, e⟩ := h
  obtain ⟨q', hq', c', e'⟩ := h'
  rw [e] at e'
  injection e' with e'
  injection e' with _ e'
  subst e'
  exact hd _ hq hq'
theorem R_typed4 {W : World} {base : Nat} {ok : Nat → Prop} {v : Value} {xs : List Bool} (h : Kd.R Kd.bool 4 W base ok v xs) (k : Nat) (hk : some k = v.ownBlock) : ∃ q, q ∈ [4] ∧ ∃ cells, W.heap[k]? = some (.cells cells q (0, 0)) := by
  obtain ⟨c, e⟩ := Kd.R_typed h k hk.symm
  exact ⟨4, by simp, c, e⟩
set_option maxHeartbeats 2000000 in
set_option maxRecDepth 100000 in
theorem laws_markDisk.calls (k : Nat) (v0 v1 v2 v3 : Value) (l0 l1 : List Bool) (l2 : List S34) (l3 : List S24) (a1 m1 m2 m3 : Int) (r1 r2 : List Bool) (r3 : List S34) (r4 : List S24) (w0 w : World) (hB : Below w0.heap.size w0 w)
    (ho0 : Kd.R Kd.bool 4 w w0.heap.size (fun k_ => some k_ ≠ v1.ownBlock) v0 l0) (ho1 : Kd.R Kd.bool 4 w w0.heap.size (fun k_ => some k_ ≠ v0.ownBlock) v1 l1) (ho2 : Kd.S k34 34 w w0.heap.size (fun _ => True) v2 l2) (ho3 : Kd.S k24 24 w w0.heap.size (fun _ => True) v3 l3)
    (h1 : laws_markBits.f k l0 l1 a1 = some (m1, r1, r2)) (h2 : laws_markInodeS.f k l2 m1 = some (m2, r3)) (h3 : laws_markBlockS.f k l3 m2 = some (m3, r4)) :
    Calls Try.prog 66 #[.agg #[v0, v1, v2, v3], .int .i64 a1] w fun e w' => e = .returned (.int .i64 m3) ∧ Kd.R Kd.bool 4 w' w0.heap.size (fun _ => True) v0 r1 ∧ Kd.R Kd.bool 4 w' w0.heap.size (fun _ => True) v1 r2 ∧ Kd.S k34 34 w' w0.heap.size (fun _ => True) v2 r3 ∧ Kd.S k24 24 w' w0.heap.size (fun _ => True) v3 r4 ∧ Below w0.heap.size w0 w' ∧ ∀ (g : Nat) (cells : Array Value), w.heap[g]? = some (Obj.cells cells 84 (0, 0)) → w'.heap[g]? = some (Obj.cells cells 84 (0, 0)) := by
  have H1 := Aside0.mk h1
  have H2 := Aside0.mk h2
  have H3 := Aside0.mk h3
  have HB := Aside0.mk hB
  obtain ⟨A0, c0, rfl⟩ := Kd.R_slice ho0
  obtain ⟨A1, c1, rfl⟩ := Kd.R_slice ho1
  obtain ⟨A2, c2, rfl⟩ := Kd.S_slice ho2
  obtain ⟨A3, c3, rfl⟩ := Kd.S_slice ho3
  have HO0 := Aside0.mk ho0
  have HO1 := Aside0.mk ho1
  have HO2 := Aside0.mk ho2
  have HO3 := Aside0.mk ho3
  clear h1 h2 h3 hB ho0 ho1 ho2 ho3
  go_enter Try.func66, Try.ntmps66
  have hB0 := below_alloc HB.out (Obj.cells #[Value.slice A0 l0.length c0, Value.slice A1 l1.length c1, Value.slice A2 l2.length c2, Value.slice A3 l3.length c3] 84)
  have hbk := blk_new w (Obj.cells #[Value.slice A0 l0.length c0, Value.slice A1 l1.length c1, Value.slice A2 l2.length c2, Value.slice A3 l3.length c3] 84)
  have HB0 := Aside0.mk hB0
  have HBK := Aside0.mk hbk
  clear hB0 hbk
  go_wp2_with (go_at_call 9)
  refine (laws_markBits.calls k (fun k_ => some k_ = (Value.slice A0 l0.length c0).ownBlock) _ l0 (fun k_ => some k_ = (Value.slice A1 l1.length c1).ownBlock) _ l1 a1 m1 r1 r2 w0 _ HB0.out (Kd.R_alloc (Kd.R_tight rfl HO0.out) _) (fun k_ e1 e2 => HO0.out.1 k_ e1.symm e2) (Kd.R_alloc (Kd.R_tight rfl HO1.out) _) (fun k_ e1 e2 => HO1.out.1 k_ e1.symm e2) H1.out).mono ?_
  rintro e w1 ⟨rfl, hR0, hR1, hB1, hK1⟩
  have hb1 := blk_kept HBK.out hK1 (by
    rintro (e_ | e_)
    · exact absurd (Kd.R_lt HO0.out _ e_.symm) (Nat.lt_irrefl _)
    · exact absurd (Kd.R_lt HO1.out _ e_.symm) (Nat.lt_irrefl _))
  have hS2 := Kd.S_bound (Kd.S_kept (Kd.S_alloc (Kd.S_apart' (Kd.S_apart' HO2.out (Kd.R_typed HO0.out) (by decide)) (Kd.R_typed HO1.out) (by decide)) _) hK1 (fun k_ hk hs => hs.elim (fun e_ => hk.1.2 e_) (fun e_ => hk.2 e_)))
  have hS3 := Kd.S_bound (Kd.S_kept (Kd.S_alloc (Kd.S_apart' (Kd.S_apart' HO3.out (Kd.R_typed HO0.out) (by decide)) (Kd.R_typed HO1.out) (by decide)) _) hK1 (fun k_ hk hs => hs.elim (fun e_ => hk.1.2 e_) (fun e_ => hk.2 e_)))
  have R0 := Aside0.mk (Kd.R_tight rfl hR0)
  have R1 := Aside0.mk (Kd.R_tight rfl hR1)
  have S2 := Aside0.mk (Kd.S_mono hS2 (fun k_ hk => hk.2.2.2))
  have S3 := Aside0.mk (Kd.S_mono hS3 (fun k_ hk => hk.2.2.2))
  have B1 := Aside0.mk hB1
  have HBK1 := Aside0.mk hb1
  have hx1 : w1.cell? ⟨w.heap.size, 2, none⟩ = some (Value.slice A2 l2.length c2) := (blk_cell hb1 2).trans rfl
  have K1 := Aside0.mk hK1
  clear hR0 hR1 hB1 hK1 hb1 hS2 hS3
  go_wp2_with (go_at_call 9)
  refine (laws_markInodeS.calls k (fun k_ => ∃ q, q ∈ 34 :: k34.E ∧ ∃ cells, w1.heap[k_]? = some (.cells cells q (0, 0))) _ l2 m1 m2 r3 w0 _ B1.out S2.out H2.out).mono ?_
  rintro e w2 ⟨rfl, hS2, hB2, hK2⟩
  have hb2 := blk_kept HBK1.out hK2 (fun hs => types_apart (L := [84]) (L' := 34 :: k34.E) (by decide) ⟨84, by simp, _, HBK1.out⟩ hs)
  have hR0 := Kd.R_kept R0.out hK2 (fun k_ hk hs => types_apart (L := [4]) (L' := 34 :: k34.E) (by decide) (R_typed4 R0.out k_ hk) hs)
  have hR1 := Kd.R_kept R1.out hK2 (fun k_ hk hs => types_apart (L := [4]) (L' := 34 :: k34.E) (by decide) (R_typed4 R1.out k_ hk) hs)
  have hS3 := Kd.S_kept S3.out hK2 (fun k_ hk hs => types_apart (L := 24 :: k24.E) (L' := 34 :: k34.E) (by decide) hk hs)
  have R0' := Aside0.mk hR0
  have R1' := Aside0.mk hR1
  have S2' := Aside0.mk (Kd.S_mono (Kd.S_bound hS2) (fun k_ hk => hk.2.2.2))
  have S3' := Aside0.mk (Kd.S_mono (Kd.S_bound hS3) (fun k_ hk => hk.2.2.2))
  have B2 := Aside0.mk hB2
  have hx2 : w2.cell? ⟨w.heap.size, 3, none⟩ = some (Value.slice A3 l3.length c3) := (blk_cell hb2 3).trans rfl
  have K2 := Aside0.mk hK2
  clear hR0 hR1 hB2 hK2 hb2 hS2 hS3 hx1
  go_wp2_with (go_at_call 9)
  refine (laws_markBlockS.calls k (fun k_ => ∃ q, q ∈ 24 :: k24.E ∧ ∃ cells, w2.heap[k_]? = some (.cells cells q (0, 0))) _ l3 m2 m3 r4 w0 _ B2.out S3'.out H3.out).mono ?_
  rintro e w3 ⟨rfl, hS3, hB3, hK3⟩
  have hR0 := Aside0.mk (Kd.R_mono (Kd.R_kept R0'.out hK3 (fun k_ hk hs => types_apart (L := [4]) (L' := 24 :: k24.E) (by decide) (R_typed4 R0'.out k_ hk) hs)) (fun _ _ => trivial))
  have hR1 := Aside0.mk (Kd.R_mono (Kd.R_kept R1'.out hK3 (fun k_ hk hs => types_apart (L := [4]) (L' := 24 :: k24.E) (by decide) (R_typed4 R1'.out k_ hk) hs)) (fun _ _ => trivial))
  have hS2 := Aside0.mk (Kd.S_mono (Kd.S_kept S2'.out hK3 (fun k_ hk hs => types_apart (L := 34 :: k34.E) (L' := 24 :: k24.E) (by decide) hk hs)) (fun _ _ => trivial))
  have hS3' := Aside0.mk (Kd.S_mono hS3 (fun _ _ => trivial))
  have hB3' := Aside0.mk hB3
  have K3 := Aside0.mk hK3
  clear hS3 hB3 hK3 hx2
  go_wp2
  go_ret
  refine ⟨rfl, hR0.out, hR1.out, hS2.out, hS3'.out, hB3'.out, fun g cells hgc => ?_⟩
  have a1 := blk_alloc hgc (Obj.cells #[Value.slice A0 l0.length c0, Value.slice A1 l1.length c1, Value.slice A2 l2.length c2, Value.slice A3 l3.length c3] 84)
  have a2 := blk_kept a1 K1.out (by
    rintro (e_ | e_)
    · exact types_apart (L := [84]) (L' := [4]) (by decide) ⟨84, by simp, _, hgc⟩ (R_typed4 HO0.out g e_)
    · exact types_apart (L := [84]) (L' := [4]) (by decide) ⟨84, by simp, _, hgc⟩ (R_typed4 HO1.out g e_))
  have a3 := blk_kept a2 K2.out (fun hs => types_apart (L := [84]) (L' := 34 :: k34.E) (by decide) ⟨84, by simp, _, a2⟩ hs)
  exact blk_kept a3 K3.out (fun hs => types_apart (L := [84]) (L' := 24 :: k24.E) (by decide) ⟨84, by simp, _, a3⟩ hs)
/-! ### laws_FnExactDiskNew: function 13, by hand -/
/-- The four rows of a disk, read. -/
def Rd4 (W : World) (A0 : Option Addr) (c0 : Nat) (l0 : List Bool) (A1 : Option Addr) (c1 : Nat) (l1 : List Bool) (A2 : Option Addr) (c2 : Nat) (l2 : List S34) (A3 : Option Addr) (c3 : Nat) (l3 : List S24) : Prop :=
  (Kd.C Kd.bool W A0 l0.length l0 ∧ l0.length ≤ c0) ∧ (Kd.C Kd.bool W A1 l1.length l1 ∧ l1.length ≤ c1) ∧ (Kd.C k34 W A2 l2.length l2 ∧ l2.length ≤ c2) ∧ (Kd.C k24 W A3 l3.length l3 ∧ l3.length ≤ c3)
theorem Rd4.below {W W' : World} {A0 : Option Addr} {c0 : Nat} {l0 : List Bool} {A1 : Option Addr} {c1 : Nat} {l1 : List Bool} {A2 : Option Addr} {c2 : Nat} {l2 : List S34} {A3 : Option Addr} {c3 : Nat} {l3 : List S24} (h : Rd4 W A0 c0 l0 A1 c1 l1 A2 c2 l2 A3 c3 l3) (hb : Below W.heap.size W W') : Rd4 W' A0 c0 l0 A1 c1 l1 A2 c2 l2 A3 c3 l3 :=
  ⟨⟨Kd.C_below h.1.1 hb, h.1.2⟩, ⟨Kd.C_below h.2.1.1 hb, h.2.1.2⟩, ⟨Kd.C_below h.2.2.1.1 hb, h.2.2.1.2⟩, ⟨Kd.C_below h.2.2.2.1 hb, h.2.2.2.2⟩⟩
theorem eqDisk_calls (k : Nat) {A0 : Option Addr} {c0 : Nat} {l0 : List Bool} {A1 : Option Addr} {c1 : Nat} {l1 : List Bool} {A2 : Option Addr} {c2 : Nat} {l2 : List S34} {A3 : Option Addr} {c3 : Nat} {l3 : List S24} {B0 : Option Addr} {d0 : Nat} {n0 : List Bool} {B1 : Option Addr} {d1 : Nat} {n1 : List Bool} {B2 : Option Addr} {d2 : Nat} {n2 : List S34} {B3 : Option Addr} {d3 : Nat} {n3 : List S24} {W : World} (hA : Rd4 W A0 c0 l0 A1 c1 l1 A2 c2 l2 A3 c3 l3) (hB : Rd4 W B0 d0 n0 B1 d1 n1 B2 d2 n2 B3 d3 n3) (h : laws_eqDisk.f k l0 l1 l2 l3 n0 n1 n2 n3 = some true) :
    Calls Try.prog 65 #[.agg #[.slice A0 l0.length c0, .slice A1 l1.length c1, .slice A2 l2.length c2, .slice A3 l3.length c3], .agg #[.slice B0 n0.length d0, .slice B1 n1.length d1, .slice B2 n2.length d2, .slice B3 n3.length d3]] W fun e w' => e = .returned (.bool true) ∧ Below W.heap.size W w' :=
  laws_eqDisk.calls k A0 c0 l0 A1 c1 l1 A2 c2 l2 A3 c3 l3 B0 d0 n0 B1 d1 n1 B2 d2 n2 B3 d3 n3 true W hA.1.1 hA.1.2 hA.2.1.1 hA.2.1.2 hA.2.2.1.1 hA.2.2.1.2 hA.2.2.2.1 hA.2.2.2.2 hB.1.1 hB.1.2 hB.2.1.1 hB.2.1.2 hB.2.2.1.1 hB.2.2.1.2 hB.2.2.2.1 hB.2.2.2.2 h
theorem heldDisk_calls (k : Nat) {A0 : Option Addr} {c0 : Nat} {l0 : List Bool} {A1 : Option Addr} {c1 : Nat} {l1 : List Bool} {A2 : Option Addr} {c2 : Nat} {l2 : List S34} {A3 : Option Addr} {c3 : Nat} {l3 : List S24} {a1 r : Int} {W : World} (hA : Rd4 W A0 c0 l0 A1 c1 l1 A2 c2 l2 A3 c3 l3) (h : laws_heldDisk.f k l0 l1 l2 l3 a1 = some r) :
    Calls Try.prog 67 #[.agg #[.slice A0 l0.length c0, .slice A1 l1.length c1, .slice A2 l2.length c2, .slice A3 l3.length c3], .int .i64 a1] W fun e w' => e = .returned (.int .i64 r) ∧ Below W.heap.size W w' :=
  laws_heldDisk.calls k A0 c0 l0 A1 c1 l1 A2 c2 l2 A3 c3 l3 a1 r W hA.1.1 hA.1.2 hA.2.1.1 hA.2.1.2 hA.2.2.1.1 hA.2.2.1.2 hA.2.2.2.1 hA.2.2.2.2 h
set_option maxHeartbeats 2000000 in
set_option maxRecDepth 100000 in
theorem laws_FnExactDiskNew.walk_ (k : Nat) (s0 s1 : List Bool) (s2 : List S34) (s3 : List S24) (g0 g1 : List Bool) (g2 : List S34) (g3 : List S24) (m1 m2 m : Int) (r0 r1 : List Bool) (r2 : List S34) (r3 : List S24) (w : World)
    (hs : spec_DiskNew.f k = some (s0, s1, s2, s3)) (hg : impl_DiskNew.f k = some (g0, g1, g2, g3)) (he : laws_eqDisk.f k g0 g1 g2 g3 s0 s1 s2 s3 = some true)
    (h1 : laws_markBits.f k g0 g1 1 = some (m1, r0, r1)) (h2 : laws_markInodeS.f k g2 m1 = some (m2, r2)) (h3 : laws_markBlockS.f k g3 m2 = some (m, r3)) (hh : laws_heldDisk.f k r0 r1 r2 r3 1 = some m) (hm : 0 ≤ m)
    (z0 : r0.length = g0.length) (z1 : r1.length = g1.length) (z2 : r2.length = g2.length) (z3 : r3.length = g3.length) :
    Calls Try.prog 13 #[] w fun e w' => e = .returned (.bool true) ∧ Below w.heap.size w w' := by
  have HS := Aside0.mk hs
  have HG := Aside0.mk hg
  have HE := Aside0.mk he
  have H1 := Aside0.mk h1
  have H2 := Aside0.mk h2
  have H3 := Aside0.mk h3
  have HH := Aside0.mk hh
  have q1 : decide (m < 0) = false := decide_eq_false (by omega)
  have Z0 := Aside0.mk z0
  have Z1 := Aside0.mk z1
  have Z2 := Aside0.mk z2
  have Z3 := Aside0.mk z3
  clear hs hg he h1 h2 h3 hh hm z0 z1 z2 z3
  go_enter Try.func13, Try.ntmps13
  go_wp2_with (go_at_call 9)
  refine (spec_DiskNew.calls k s0 s1 s2 s3 _ HS.out).mono ?_
  rintro e w1 ⟨a0, a1, a2, a3, rfl, ha0, ha1, ha2, ha3, hb1⟩
  obtain ⟨A0, c0, rfl⟩ := Kd.R_slice ha0
  obtain ⟨A1, c1, rfl⟩ := Kd.R_slice ha1
  obtain ⟨A2, c2, rfl⟩ := Kd.N_slice ha2
  obtain ⟨A3, c3, rfl⟩ := Kd.N_slice ha3
  have CA := Aside0.mk (show Rd4 w1 A0 c0 s0 A1 c1 s1 A2 c2 s2 A3 c3 s3 from ⟨(Kd.R_reads' ha0).2.symm, (Kd.R_reads' ha1).2.symm, (Kd.N_reads' ha2).2.symm, (Kd.N_reads' ha3).2.symm⟩)
  have B1 := Aside0.mk hb1
  clear ha0 ha1 ha2 ha3 hb1
  go_wp2_with (go_at_call 9)
  have hboxA := blk_new w1 (Obj.cells #[Value.slice A0 s0.length c0, Value.slice A1 s1.length c1, Value.slice A2 s2.length c2, Value.slice A3 s3.length c3] 84)
  have hbA := below_alloc (Below.refl _ w1) (Obj.cells #[Value.slice A0 s0.length c0, Value.slice A1 s1.length c1, Value.slice A2 s2.length c2, Value.slice A3 s3.length c3] 84)
  generalize w1.alloc (Obj.cells #[Value.slice A0 s0.length c0, Value.slice A1 s1.length c1, Value.slice A2 s2.length c2, Value.slice A3 s3.length c3] 84) = wA at hboxA hbA ⊢
  have BKA := Aside0.mk hboxA
  have BA := Aside0.mk hbA
  clear hboxA hbA
  refine (impl_DiskNew.calls k g0 g1 g2 g3 _ HG.out).mono ?_
  rintro e w2 ⟨v0, v1, v2, v3, rfl, hv0, hv1, hv2, hv3, hb2⟩
  obtain ⟨D0, d0, rfl⟩ := Kd.R_slice hv0
  obtain ⟨D1, d1, rfl⟩ := Kd.R_slice hv1
  obtain ⟨D2, d2, rfl⟩ := Kd.S_slice hv2
  obtain ⟨D3, d3, rfl⟩ := Kd.S_slice hv3
  have CD := Aside0.mk (show Rd4 w2 D0 d0 g0 D1 d1 g1 D2 d2 g2 D3 d3 g3 from ⟨(Kd.R_reads' hv0).2.symm, (Kd.R_reads' hv1).2.symm, (Kd.S_reads' hv2).2.symm, (Kd.S_reads' hv3).2.symm⟩)
  have V0 := Aside0.mk hv0
  have V1 := Aside0.mk hv1
  have V2 := Aside0.mk hv2
  have V3 := Aside0.mk hv3
  have B2 := Aside0.mk hb2
  clear hv0 hv1 hv2 hv3 hb2
  have hA2 := blk_below BKA.out B2.out
  have lA2 := blk_lt hA2
  have y0 := (blk_cell hA2 0).trans rfl
  have y1 := (blk_cell hA2 1).trans rfl
  have y2 := (blk_cell hA2 2).trans rfl
  have y3 := (blk_cell hA2 3).trans rfl
  clear hA2
  go_wp2_with (go_at_call 9)
  clear lA2 y0 y1 y2 y3
  have hboxB := blk_new w2 (Obj.cells #[Value.slice D0 g0.length d0, Value.slice D1 g1.length d1, Value.slice D2 g2.length d2, Value.slice D3 g3.length d3] 84)
  have hbB := below_alloc (Below.refl _ w2) (Obj.cells #[Value.slice D0 g0.length d0, Value.slice D1 g1.length d1, Value.slice D2 g2.length d2, Value.slice D3 g3.length d3] 84)
  generalize w2.alloc (Obj.cells #[Value.slice D0 g0.length d0, Value.slice D1 g1.length d1, Value.slice D2 g2.length d2, Value.slice D3 g3.length d3] 84) = wB at hboxB hbB ⊢
  have BKB := Aside0.mk hboxB
  have BB := Aside0.mk hbB
  clear hboxB hbB
  refine (eqDisk_calls k (CD.out.below BB.out) (CA.out.below (below_step (below_step BA.out B2.out) BB.out)) HE.out).mono ?_
  rintro e w3 ⟨rfl, hb3⟩
  have B3 := Aside0.mk hb3
  have x0 := (blk_cell (blk_below BKB.out hb3) 0).trans rfl
  have x1 := (blk_cell (blk_below BKB.out hb3) 1).trans rfl
  have x2 := (blk_cell (blk_below BKB.out hb3) 2).trans rfl
  have x3 := (blk_cell (blk_below BKB.out hb3) 3).trans rfl
  clear hb3
  go_wp2_with (go_at_call 9)
  clear x0 x1 x2 x3
  refine (laws_markDisk.calls k _ _ _ _ g0 g1 g2 g3 1 m1 m2 m r0 r1 r2 r3 wA _ (below_step (below_step B2.out BB.out) B3.out) (Kd.R_below V0.out (below_step BB.out B3.out)) (Kd.R_below V1.out (below_step BB.out B3.out)) (Kd.S_below V2.out (below_step BB.out B3.out)) (Kd.S_below V3.out (below_step BB.out B3.out)) H1.out H2.out H3.out).mono ?_
  rintro e w4 ⟨rfl, hr0, hr1, hr2, hr3, hb4, hk4⟩
  have CR := Aside0.mk (show Rd4 w4 D0 d0 r0 D1 d1 r1 D2 d2 r2 D3 d3 r3 from by
    have y0 := Kd.R_reads' hr0
    have y1 := Kd.R_reads' hr1
    have y2 := Kd.S_reads' hr2
    have y3 := Kd.S_reads' hr3
    rw [y0.1] at y0
    rw [y1.1] at y1
    rw [y2.1] at y2
    rw [y3.1] at y3
    exact ⟨y0.2.symm, y1.2.symm, y2.2.symm, y3.2.symm⟩)
  have B4 := Aside0.mk hb4
  have BKB4 := Aside0.mk (hk4 _ _ (blk_below BKB.out B3.out))
  have x0 := (blk_cell BKB4.out 0).trans rfl
  have x1 := (blk_cell BKB4.out 1).trans rfl
  have x2 := (blk_cell BKB4.out 2).trans rfl
  have x3 := (blk_cell BKB4.out 3).trans rfl
  clear hr0 hr1 hr2 hr3 hb4 hk4
  have HD := Aside0.mk (fun (W : World) (hR : Rd4 W D0 d0 r0 D1 d1 r1 D2 d2 r2 D3 d3 r3) => heldDisk_calls k hR HH.out)
  rw [Z0.out, Z1.out, Z2.out, Z3.out] at HD
  go_wp2_with (go_at_call 9)
  clear x0 x1 x2 x3
  refine (HD.out _ CR.out).mono ?_
  rintro e w5 ⟨rfl, hb5⟩
  have B5 := Aside0.mk hb5
  clear hb5
  go_wp2_with (go_at_call 9)
  refine (impl_DiskNew.calls k g0 g1 g2 g3 _ HG.out).mono ?_
  rintro e w6 ⟨u0, u1, u2, u3, rfl, hv0, hv1, hv2, hv3, hb6⟩
  obtain ⟨E0, e0, rfl⟩ := Kd.R_slice hv0
  obtain ⟨E1, e1, rfl⟩ := Kd.R_slice hv1
  obtain ⟨E2, e2, rfl⟩ := Kd.S_slice hv2
  obtain ⟨E3, e3, rfl⟩ := Kd.S_slice hv3
  have CE := Aside0.mk (show Rd4 w6 E0 e0 g0 E1 e1 g1 E2 e2 g2 E3 e3 g3 from ⟨(Kd.R_reads' hv0).2.symm, (Kd.R_reads' hv1).2.symm, (Kd.S_reads' hv2).2.symm, (Kd.S_reads' hv3).2.symm⟩)
  have B6 := Aside0.mk hb6
  clear hv0 hv1 hv2 hv3 hb6
  have hA2 := blk_below (blk_below (blk_below BKA.out B4.out) B5.out) B6.out
  have lA2 := blk_lt hA2
  have y0 := (blk_cell hA2 0).trans rfl
  have y1 := (blk_cell hA2 1).trans rfl
  have y2 := (blk_cell hA2 2).trans rfl
  have y3 := (blk_cell hA2 3).trans rfl
  clear hA2
  go_wp2_with (go_at_call 9)
  clear lA2 y0 y1 y2 y3
  have hboxC := blk_new w6 (Obj.cells #[Value.slice E0 g0.length e0, Value.slice E1 g1.length e1, Value.slice E2 g2.length e2, Value.slice E3 g3.length e3] 84)
  have hbC := below_alloc (Below.refl _ w6) (Obj.cells #[Value.slice E0 g0.length e0, Value.slice E1 g1.length e1, Value.slice E2 g2.length e2, Value.slice E3 g3.length e3] 84)
  generalize w6.alloc (Obj.cells #[Value.slice E0 g0.length e0, Value.slice E1 g1.length e1, Value.slice E2 g2.length e2, Value.slice E3 g3.length e3] 84) = wC at hboxC hbC ⊢
  have BKC := Aside0.mk hboxC
  have BC := Aside0.mk hbC
  clear hboxC hbC
  refine (eqDisk_calls k (CE.out.below BC.out) (CA.out.below (below_step (below_step (below_step (below_step BA.out B4.out) B5.out) B6.out) BC.out)) HE.out).mono ?_
  rintro e w7 ⟨rfl, hb7⟩
  have B7 := Aside0.mk hb7
  have x0 := (blk_cell (blk_below (blk_below (blk_below (blk_below BKB4.out B5.out) B6.out) BC.out) hb7) 0).trans rfl
  have x1 := (blk_cell (blk_below (blk_below (blk_below (blk_below BKB4.out B5.out) B6.out) BC.out) hb7) 1).trans rfl
  have x2 := (blk_cell (blk_below (blk_below (blk_below (blk_below BKB4.out B5.out) B6.out) BC.out) hb7) 2).trans rfl
  have x3 := (blk_cell (blk_below (blk_below (blk_below (blk_below BKB4.out B5.out) B6.out) BC.out) hb7) 3).trans rfl
  clear hb7
  go_wp2_with (go_at_call 9)
  clear x0 x1 x2 x3
  refine (HD.out _ (CR.out.below (below_step (below_step (below_step B5.out B6.out) BC.out) B7.out))).mono ?_
  rintro e w8 ⟨rfl, hb8⟩
  go_wp2
  go_ret
  exact ⟨rfl, below_step (below_step (below_step (below_step (below_step (below_step (below_step B1.out BA.out) B4.out) B5.out) B6.out) BC.out) B7.out) hb8⟩
end Go.Proofs.Ytfkjjehkngmgaaa.PFnExactDiskNew
namespace Go.Proofs.Ytfkjjehkngmgaaa.PFnExactDiskNew
open Go Go.RowKit Go.Proofs.YtfkjjehkngmgaaaW.PrintWords Go.Proofs.YtfkjjehkngmgaaaW.PrintLast Go.Proofs.YtfkjjehkngmgaaaW.PrintMore
def G0 : List Bool := List.replicate 16 false
def G1 : List Bool := true :: List.replicate 7 false
def G2 : List S34 := ⟨2, 1, [0, 0]⟩ :: List.replicate 7 ⟨0, 0, [0, 0]⟩
def G3 : List S24 := List.replicate 16 z24
def X1 : Option (Int × List Bool × List Bool) := laws_markBits.f 100 G0 G1 1
def m1 : Int := (X1.getD (0, [], [])).1
def R0 : List Bool := (X1.getD (0, [], [])).2.1
def R1 : List Bool := (X1.getD (0, [], [])).2.2
def X2 : Option (Int × List S34) := laws_markInodeS.f 100 G2 m1
def m2 : Int := (X2.getD (0, [])).1
def R2 : List S34 := (X2.getD (0, [])).2
def X3 : Option (Int × List S24) := laws_markBlockS.f 100 G3 m2
def m3 : Int := (X3.getD (0, [])).1
def R3 : List S24 := (X3.getD (0, [])).2
theorem some_getD {α : Type} {o : Option α} (d : α) (h : o.isSome = true) : o = some (o.getD d) := by
  cases o with
  | none => cases h
  | some x => rfl
theorem p_impl : impl_DiskNew.f 100 = some (G0, G1, G2, G3) := by kernel_rfl
theorem p_spec : spec_DiskNew.f 100 = some (G0, G1, G2, G3) := by kernel_rfl
theorem p1 : laws_markBits.f 100 G0 G1 1 = some (m1, R0, R1) := some_getD _ (show X1.isSome = true by kernel_rfl)
theorem p2 : laws_markInodeS.f 100 G2 m1 = some (m2, R2) := some_getD _ (show X2.isSome = true by kernel_rfl)
theorem p3 : laws_markBlockS.f 100 G3 m2 = some (m3, R3) := some_getD _ (show X3.isSome = true by kernel_rfl)
theorem pm : decide (0 ≤ m3) = true := by kernel_rfl
theorem z0 : R0.length = G0.length := by kernel_rfl
theorem z1 : R1.length = G1.length := by kernel_rfl
theorem z2 : R2.length = G2.length := by kernel_rfl
theorem z3 : R3.length = G3.length := by kernel_rfl
theorem p_eq : laws_eqDisk.f 100 G0 G1 G2 G3 G0 G1 G2 G3 = some true := by kernel_rfl
theorem p_held : laws_heldDisk.f 100 R0 R1 R2 R3 1 = some m3 := by kernel_rfl
theorem laws_FnExactDiskNew.walk_all (w : World) : Calls Try.prog 13 #[] w fun e w' => e = .returned (.bool true) ∧ Below w.heap.size w w' :=
  laws_FnExactDiskNew.walk_ 100 G0 G1 G2 G3 G0 G1 G2 G3 m1 m2 m3 R0 R1 R2 R3 w p_spec p_impl p_eq p1 p2 p3 p_held (of_decide_eq_true pm) z0 z1 z2 z3
end Go.Proofs.Ytfkjjehkngmgaaa.PFnExactDiskNew
