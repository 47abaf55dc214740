-- Written by a program of this session (a changed copy of the kit's print: wip/print2). Lean checks it.
import Derived.Test.YtdnbpapolckklaaPax
import Derived.Test.YtdnbpapolckklaaPFnExactDiskOfx0
namespace Go.Proofs.Ytdnbpapolckklaa.PFnExactDiskOf
open Go.RowKit Go.Proofs.YtdnbpapolckklaaW.PrintWords Go.Proofs.YtdnbpapolckklaaW.PrintLast Go.Proofs.YtdnbpapolckklaaW.PrintMore
attribute [local go_sem] max2_int min2_int max_two min_two max_three min_three max_four min_four   -- for this text's walks alone
attribute [local go_sem] Go.Proofs.Ytdnbpapolckklaa.Pad.isSome_setCell
set_option linter.unusedVariables false
set_option linter.unusedSimpArgs false

/-! ### spec_BitsNew: function 76 -/
def spec_BitsNew.f  : Option (List Bool × List Bool) := if 16 ≤ 281474976710656 then (if 8 ≤ 281474976710656 then ((some (List.replicate 8 false : List Bool)).bind fun y215 => (if 0 < (y215.length : Int) then (some ((List.replicate 16 false), (y215.set (0 : Int).toNat true))) else (none))) else (none)) else (none)
set_option maxHeartbeats 8000000 in
set_option maxRecDepth 100000 in
theorem spec_BitsNew.calls  (r1 : List Bool) (r2 : List Bool) (w : World) (h : spec_BitsNew.f  = some (r1, r2)) :
  Calls Try.prog 76 #[] w fun e w' => ∃ v0_ v1_ : Value, e = .returned (.agg #[v0_, v1_]) ∧ Kd.R Kd.bool 4 w' w.heap.size (fun k_ => some k_ ≠ (v1_ : Value).ownBlock) v0_ r1 ∧ Kd.R Kd.bool 4 w' w.heap.size (fun k_ => some k_ ≠ (v0_ : Value).ownBlock) v1_ r2 ∧ Below w.heap.size w w' := by
 have hu35 := Try.underlying35
 have HB := vA (Below.refl w.heap.size w)
 have H : (if 16 ≤ 281474976710656 then (if 8 ≤ 281474976710656 then ((some (List.replicate 8 false : List Bool)).bind fun y215 => (if 0 < (y215.length : Int) then (some ((List.replicate 16 false), (y215.set (0 : Int).toNat true))) else (none))) else (none)) else (none)) = some (r1, r2) := h
 clear h
 by_cases c1 : 16 ≤ 281474976710656
 ·rw [if_pos c1] at H
  have c1b0 := eq_true c1; have c1b1 : decide (16 ≤ 281474976710656) = true := decide_eq_true c1; clear c1; obtain ⟨y212, hy212⟩ : ∃ y_ : List Bool, y_ = (List.replicate 16 false) := ⟨_, rfl⟩
  first | rw [Option.bind_some, ← hy212] at H | rw [← hy212] at H
  have Ny212 := vA hy212; clear hy212
  by_cases c2 : 8 ≤ 281474976710656
  ·rw [if_pos c2] at H
   have c2b0 := eq_true c2; have c2b1 : decide (8 ≤ 281474976710656) = true := decide_eq_true c2; clear c2; obtain ⟨y215, hy215⟩ : ∃ y_ : List Bool, y_ = (List.replicate 8 false) := ⟨_, rfl⟩
   first | rw [Option.bind_some, ← hy215] at H | rw [← hy215] at H
   have Ny215 := vA hy215; clear hy215
   by_cases c3 : 0 < (y215.length : Int)
   ·rw [if_pos c3] at H
    have c3b0 : decide (0 < (y215.length : Int)) = true := decide_eq_true c3
    have c3b1 : decide (0 < y215.length) = true := decide_eq_true (by omega)
    clear c3; obtain ⟨y219, hy219⟩ : ∃ y_ : List Bool, y_ = (y215.set (0 : Int).toNat true) := ⟨_, rfl⟩
    first | rw [Option.bind_some, ← hy219] at H | rw [← hy219] at H
    have Ny219 := vA hy219; clear hy219
    simp only [Option.some.injEq, Prod.mk.injEq] at H
    obtain ⟨rfl, rfl⟩ := H
    go_enter Try.func76, Try.ntmps76
    try go_wp2_with (first | ((with_reducible refine gate_dst (N := 0) rfl ?_); refine vx (N := 0) (cs := #[.slice none 0 0, .slice none 0 0]) (t := 35) ?_; intro gb211 hg w5 hbox hb; have BK211 := vA (hbox); have GW211 := vA ((vg hg (qb HB.out))); have GE211 := GW211; replace HB := vbs HB hb; clear hb hbox hg))
    replace BK211 := vA (blk_drew BK211.out); replace HB := vA (below_drew1 HB.out)
    refine start_ (n := 5) (S := fun w' => True) (ds := []) #[false, false, false, false, false] (by kernel_rfl) rfl rfl trivial (fun hHeld => ?_)
    generalize w5.drew = w6 at BK211 HB hHeld ⊢
    refine join_ (σ := Value × Value × Nat) 1 #[true, true, true, true, false] (fun s_ => [(2, s_.1), (3, s_.2.1), (1, .pointer (some ⟨s_.2.2, 0, none⟩)), (4, .agg #[s_.1, s_.2.1])]) (fun s_ w' => (Kd.R Kd.bool 4 w' w.heap.size (fun k_ => some k_ ≠ (s_.2.1 : Value).ownBlock) s_.1 y212) ∧ (Kd.R Kd.bool 4 w' w.heap.size (fun k_ => some k_ ≠ (s_.1 : Value).ownBlock) s_.2.1 y215) ∧ (w'.heap[gb211]? = some (.cells #[.slice none 0 0, .slice none 0 0] 35 (0, 0))) ∧ (w'.heap[s_.2.2]? = some (.cells #[.slice none 0 0, .slice none 0 0] 35 (0, 0))) ∧ (w.heap.size ≤ s_.2.2) ∧ (w.heap.size ≤ s_.2.2) ∧ (gb211 ≠ s_.2.2) ∧ (s_.2.2 ≠ gb211) ∧ (Below w.heap.size w w')) ?_ ?_
    rotate_left
    ·intro hJ0_1_3
     refine join_ (σ := Value × Value) 2 #[true, true, true, false, false] (fun s_ => [(2, s_.1), (3, s_.2), (4, .agg #[s_.1, s_.2])]) (fun s_ w' => (Kd.R Kd.bool 4 w' w.heap.size (fun k_ => some k_ ≠ (s_.2 : Value).ownBlock) s_.1 y212) ∧ (Kd.R Kd.bool 4 w' w.heap.size (fun k_ => some k_ ≠ (s_.1 : Value).ownBlock) s_.2 y215) ∧ (w'.heap[gb211]? = some (.cells #[.slice none 0 0, .slice none 0 0] 35 (0, 0))) ∧ (Below w.heap.size w w')) ?_ ?_
     rotate_left
     ·intro hJ0_1
      refine join_ (σ := Value × Nat) 3 #[true, false, false, true, false] (fun s_ => [(2, s_.1), (1, .pointer (some ⟨s_.2, 0, none⟩))]) (fun s_ w' => (Kd.R Kd.bool 4 w' w.heap.size (fun _ => True) s_.1 y212) ∧ (w'.heap[gb211]? = some (.cells #[.slice none 0 0, .slice none 0 0] 35 (0, 0))) ∧ (w'.heap[s_.2]? = some (.cells #[.slice none 0 0, .slice none 0 0] 35 (0, 0))) ∧ (w.heap.size ≤ s_.2) ∧ (w.heap.size ≤ s_.2) ∧ (gb211 ≠ s_.2) ∧ (s_.2 ≠ gb211) ∧ (Below w.heap.size w w')) ?_ ?_
      rotate_left
      ·intro hJ0_3
       refine join_ (σ := Value × Nat) 3 #[false, true, false, true, false] (fun s_ => [(3, s_.1), (1, .pointer (some ⟨s_.2, 0, none⟩))]) (fun s_ w' => (Kd.R Kd.bool 4 w' w.heap.size (fun _ => True) s_.1 y215) ∧ (w'.heap[gb211]? = some (.cells #[.slice none 0 0, .slice none 0 0] 35 (0, 0))) ∧ (w'.heap[s_.2]? = some (.cells #[.slice none 0 0, .slice none 0 0] 35 (0, 0))) ∧ (w.heap.size ≤ s_.2) ∧ (w.heap.size ≤ s_.2) ∧ (gb211 ≠ s_.2) ∧ (s_.2 ≠ gb211) ∧ (Below w.heap.size w w')) ?_ ?_
       rotate_left
       ·intro hJ1_3
        refine join_ (σ := Value) 4 #[true, false, false, false, false] (fun s_ => [(2, s_)]) (fun s_ w' => (Kd.R Kd.bool 4 w' w.heap.size (fun _ => True) s_ y212) ∧ (w'.heap[gb211]? = some (.cells #[.slice none 0 0, .slice none 0 0] 35 (0, 0))) ∧ (Below w.heap.size w w')) ?_ ?_
        rotate_left
        ·intro hJ0
         refine join_ (σ := Value) 4 #[false, true, false, false, false] (fun s_ => [(3, s_)]) (fun s_ w' => (Kd.R Kd.bool 4 w' w.heap.size (fun _ => True) s_ y215) ∧ (w'.heap[gb211]? = some (.cells #[.slice none 0 0, .slice none 0 0] 35 (0, 0))) ∧ (Below w.heap.size w w')) ?_ ?_
         rotate_left
         ·intro hJ1
          refine join_ (σ := Nat) 4 #[false, false, false, true, false] (fun s_ => [(1, .pointer (some ⟨s_, 0, none⟩))]) (fun s_ w' => (w'.heap[gb211]? = some (.cells #[.slice none 0 0, .slice none 0 0] 35 (0, 0))) ∧ (w'.heap[s_]? = some (.cells #[.slice none 0 0, .slice none 0 0] 35 (0, 0))) ∧ (w.heap.size ≤ s_) ∧ (w.heap.size ≤ s_) ∧ (gb211 ≠ s_) ∧ (s_ ≠ gb211) ∧ (Below w.heap.size w w')) ?_ ?_
          rotate_left
          ·intro hJ3
           refine three_ (i := 0) (j := 1) (k := 3) (Ni := some 2) (Nj := some 3) (Nk := some 1) #[true, false, false, false, false] #[false, true, false, false, false] #[false, false, false, true, false] rfl rfl rfl rfl rfl rfl (by kernel_rfl) (by decide) (by decide) (by decide) (fun K hK => ?_) (fun K hK => ?_) (fun K hK => ?_)
           ·skip
            refine Kd.R_make_step Kd.bool _ 4 (by rfl) (N := 2) rfl 22 _ _ rfl 16 rfl rfl Try.underlying22 (.bool false) 1 info4 rfl (by decide) (by omega) false (ok := fun _ => True) (okp := fun _ => True) rfl (fun _ hk => hk) trivial (by omega) (by omega) (Below.refl _ _) (Nat.le_refl _) ?_
            intro v213 w7 ho8 hb hg_ hnew_; clear hg_ hnew_
            (first | rw [← Ny212.out] at ho8 | (simp only [Int.reduceToNat] at ho8; rw [← Ny212.out] at ho8))
            have HO214 := vA (Kd.R_lower ho8 (below_size (vh HB))); replace BK211 := vw BK211 hb; replace HB := vbs HB hb; clear hb ho8
            refine hK.out _ _ trivial (fun hHeld => ?_)
            clear hK K; refine norm_ (a' := ?_) ?_ ?_; rotate_left
            ·show Act.put _ (some 2) _ = _
             refine qp ?_
             rfl
            exact norm_ (by first | (simp only [putAll, Act.put, List.setIfInBounds_toArray, List.set_cons_zero, List.set_cons_succ]; done) | (simp only [putAll, Act.put, List.setIfInBounds_toArray, List.set_cons_zero, List.set_cons_succ]; rfl)) (hJ0 (v213) _ ⟨(qr HO214.out), (qk BK211.out), (vh HB)⟩)
           ·skip
            refine Kd.R_make_step Kd.bool _ 4 (by rfl) (N := 3) rfl 22 _ _ rfl 8 rfl rfl Try.underlying22 (.bool false) 1 info4 rfl (by decide) (by omega) false (ok := fun _ => True) (okp := fun _ => True) rfl (fun _ hk => hk) trivial (by omega) (by omega) (Below.refl _ _) (Nat.le_refl _) ?_
            intro v216 w7 ho8 hb hg_ hnew_; clear hg_ hnew_
            (first | rw [← Ny215.out] at ho8 | (simp only [Int.reduceToNat] at ho8; rw [← Ny215.out] at ho8))
            have HO217 := vA (Kd.R_lower ho8 (below_size (vh HB))); replace BK211 := vw BK211 hb; replace HB := vbs HB hb; clear hb ho8
            refine hK.out _ _ trivial (fun hHeld => ?_)
            clear hK K; refine norm_ (a' := ?_) ?_ ?_; rotate_left
            ·show Act.put _ (some 3) _ = _
             refine qp ?_
             rfl
            exact norm_ (by first | (simp only [putAll, Act.put, List.setIfInBounds_toArray, List.set_cons_zero, List.set_cons_succ]; done) | (simp only [putAll, Act.put, List.setIfInBounds_toArray, List.set_cons_zero, List.set_cons_succ]; rfl)) (hJ1 (v216) _ ⟨(qr HO217.out), (qk BK211.out), (vh HB)⟩)
           ·skip
            refine box_step ?hg (N := 1) ?hd (cs := #[.slice none 0 0, .slice none 0 0]) (t := 35) ?hr ?_; (case hd => rfl); (case hg => rfl); (case hr => first | (go_simp; done) | (go_simp; rfl))
            intro gb218 hg w7 hbox hb; have BK218 := vA (hbox); have GW218 := vA ((vg hg (vh HB))); have GE218 := GW218; replace HB := vbs HB hb; have NB211_218 := vn hg BK211; have NB218_211 := vN hg BK211; replace BK211 := vw BK211 hb; clear hb hbox hg
            refine hK.out _ _ trivial (fun hHeld => ?_)
            clear hK K; refine norm_ (a' := ?_) ?_ ?_; rotate_left
            ·show Act.put _ (some 1) _ = _
             refine qp ?_
             rfl
            exact norm_ (by first | (simp only [putAll, Act.put, List.setIfInBounds_toArray, List.set_cons_zero, List.set_cons_succ]; done) | (simp only [putAll, Act.put, List.setIfInBounds_toArray, List.set_cons_zero, List.set_cons_succ]; rfl)) (hJ3 (gb218) _ ⟨(qk BK211.out), (qk BK218.out), GW218.out, GE218.out, NB211_218.out, NB218_211.out, (vh HB)⟩)
          ·skip
           rintro gb218 w8 ⟨h0_, h1_, h2_, h3_, h4_, h5_, h6_⟩; replace BK211 : Aside0 (w8.heap[gb211]? = some (.cells #[.slice none 0 0, .slice none 0 0] 35 (0, 0))) := ⟨h0_⟩; have BK218 : Aside0 (w8.heap[gb218]? = some (.cells #[.slice none 0 0, .slice none 0 0] 35 (0, 0))) := ⟨h1_⟩; have GW218 : Aside0 (w.heap.size ≤ gb218) := ⟨h2_⟩; have GE218 : Aside0 (w.heap.size ≤ gb218) := ⟨h3_⟩; have NB211_218 : Aside0 (gb211 ≠ gb218) := ⟨h4_⟩; have NB218_211 : Aside0 (gb218 ≠ gb211) := ⟨h5_⟩; replace HB : Aside0 (Below w.heap.size w w8) := ⟨h6_⟩; clear h0_ h1_ h2_ h3_ h4_ h5_ h6_; have hHeld := trivial; refine norm_ (a' := ?_) ?_ ?_; rotate_left
           ·simp only [putAll, Act.put, List.setIfInBounds_toArray, List.set_cons_zero, List.set_cons_succ]
            rfl
           refine two_ (i := 0) (j := 1) (Ni := some 2) (Nj := some 3) #[true, false, false, true, false] #[false, true, false, true, false] rfl rfl rfl rfl (by kernel_rfl) (by decide) (by decide) (fun K hK => ?_) (fun K hK => ?_)
           ·skip
            refine Kd.R_make_step Kd.bool _ 4 (by rfl) (N := 2) rfl 22 _ _ rfl 16 rfl rfl Try.underlying22 (.bool false) 1 info4 rfl (by decide) (by omega) false (ok := fun _ => True) (okp := fun _ => True) rfl (fun _ hk => hk) trivial (by omega) (by omega) (Below.refl _ _) (Nat.le_refl _) ?_
            intro v213 w9 ho10 hb hg_ hnew_; clear hg_ hnew_
            (first | rw [← Ny212.out] at ho10 | (simp only [Int.reduceToNat] at ho10; rw [← Ny212.out] at ho10))
            have HO214 := vA (Kd.R_lower ho10 (below_size (vh HB))); replace BK211 := vw BK211 hb; replace BK218 := vw BK218 hb; replace HB := vbs HB hb; clear hb ho10
            refine hK.out _ _ trivial (fun hHeld => ?_)
            clear hK K; refine norm_ (a' := ?_) ?_ ?_; rotate_left
            ·show Act.put _ (some 2) _ = _
             refine qp ?_
             rfl
            exact norm_ (by first | (simp only [putAll, Act.put, List.setIfInBounds_toArray, List.set_cons_zero, List.set_cons_succ]; done) | (simp only [putAll, Act.put, List.setIfInBounds_toArray, List.set_cons_zero, List.set_cons_succ]; rfl)) (hJ0_3 (v213, gb218) _ ⟨(qr HO214.out), (qk BK211.out), (qk BK218.out), GW218.out, GE218.out, NB211_218.out, NB218_211.out, (vh HB)⟩)
           ·skip
            refine Kd.R_make_step Kd.bool _ 4 (by rfl) (N := 3) rfl 22 _ _ rfl 8 rfl rfl Try.underlying22 (.bool false) 1 info4 rfl (by decide) (by omega) false (ok := fun _ => True) (okp := fun _ => True) rfl (fun _ hk => hk) trivial (by omega) (by omega) (Below.refl _ _) (Nat.le_refl _) ?_
            intro v216 w9 ho10 hb hg_ hnew_; clear hg_ hnew_
            (first | rw [← Ny215.out] at ho10 | (simp only [Int.reduceToNat] at ho10; rw [← Ny215.out] at ho10))
            have HO217 := vA (Kd.R_lower ho10 (below_size (vh HB))); replace BK211 := vw BK211 hb; replace BK218 := vw BK218 hb; replace HB := vbs HB hb; clear hb ho10
            refine hK.out _ _ trivial (fun hHeld => ?_)
            clear hK K; refine norm_ (a' := ?_) ?_ ?_; rotate_left
            ·show Act.put _ (some 3) _ = _
             refine qp ?_
             rfl
            exact norm_ (by first | (simp only [putAll, Act.put, List.setIfInBounds_toArray, List.set_cons_zero, List.set_cons_succ]; done) | (simp only [putAll, Act.put, List.setIfInBounds_toArray, List.set_cons_zero, List.set_cons_succ]; rfl)) (hJ1_3 (v216, gb218) _ ⟨(qr HO217.out), (qk BK211.out), (qk BK218.out), GW218.out, GE218.out, NB211_218.out, NB218_211.out, (vh HB)⟩)
         ·skip
          rintro v216 w9 ⟨h0_, h1_, h2_⟩
          have HO217 : Aside0 (Kd.R Kd.bool 4 w9 w.heap.size (fun _ => True) v216 y215) := ⟨h0_⟩
          replace BK211 : Aside0 (w9.heap[gb211]? = some (.cells #[.slice none 0 0, .slice none 0 0] 35 (0, 0))) := ⟨h1_⟩; replace HB : Aside0 (Below w.heap.size w w9) := ⟨h2_⟩; clear h0_ h1_ h2_; have hHeld := trivial; refine norm_ (a' := ?_) ?_ ?_; rotate_left
          ·simp only [putAll, Act.put, List.setIfInBounds_toArray, List.set_cons_zero, List.set_cons_succ]
           rfl
          refine two_ (i := 0) (j := 3) (Ni := some 2) (Nj := some 1) #[true, true, false, false, false] #[false, true, false, true, false] rfl rfl rfl rfl (by kernel_rfl) (by decide) (by decide) (fun K hK => ?_) (fun K hK => ?_)
          ·skip
           refine Kd.R_make_step Kd.bool _ 4 (by rfl) (N := 2) rfl 22 _ _ rfl 16 rfl rfl Try.underlying22 (.bool false) 1 info4 rfl (by decide) (by omega) false (ok := fun _ => True) (okp := fun _ => True) rfl (fun _ hk => hk) trivial (by omega) (by omega) (Below.refl _ _) (Nat.le_refl _) ?_
           intro v213 w10 ho11 hb hg_ hnew_; clear hg_ hnew_
           (first | rw [← Ny212.out] at ho11 | (simp only [Int.reduceToNat] at ho11; rw [← Ny212.out] at ho11))
           have HO214 := vA (Kd.R_lower (Kd.R_new' ho11 (Kd.R_lt (qr HO217.out))) (below_size (vh HB))); replace HO217 := vA (Kd.R_elder' (qr HO217.out) (Kd.R_base ho11) hb); replace BK211 := vw BK211 hb; replace HB := vbs HB hb; clear hb ho11; obtain ⟨Ao12, co12, eo12⟩ := Kd.R_slice HO217.out
           (first | subst eo12 | (injection eo12 with f1_ f2_ f3_; have f4_ := f1_.symm; have f5_ := f3_.symm; clear f1_ f2_ f3_; subst f4_; subst f5_))
           obtain ⟨Ao13, co13, eo13⟩ := Kd.R_slice HO214.out
           (first | subst eo13 | (injection eo13 with f1_ f2_ f3_; have f4_ := f1_.symm; have f5_ := f3_.symm; clear f1_ f2_ f3_; subst f4_; subst f5_))
           refine hK.out _ _ trivial (fun hHeld => ?_)
           clear hK K; refine norm_ (a' := ?_) ?_ ?_; rotate_left
           ·show Act.put _ (some 2) _ = _
            refine qp ?_
            rfl
           refine pure_ (i := 2) (N := some 4) (v := ?_) (a' := ?_) #[true, true, true, false, false] rfl rfl (by kernel_rfl) (fun _ _ _ h => h) (Or.inl ⟨by rfl, ?_⟩) ?_ ?_
           rotate_left
           ·intro w'
            go_simp
            with_reducible rfl
           rotate_left
           ·refine qp ?_
            rfl
           exact norm_ (by first | (simp only [putAll, Act.put, List.setIfInBounds_toArray, List.set_cons_zero, List.set_cons_succ]; done) | (simp only [putAll, Act.put, List.setIfInBounds_toArray, List.set_cons_zero, List.set_cons_succ]; rfl)) (hJ0_1 (.slice Ao13 y212.length co13, .slice Ao12 y215.length co12) _ ⟨(by refine qR ?_; exact Kd.R_mono HO214.out (fun _ hk => hk.2)), (by refine qR ?_; exact Kd.R_mono HO217.out (fun _ hk => hk.2)), (qk BK211.out), (vh HB)⟩)
          ·skip
           refine box_step ?hg (N := 1) ?hd (cs := #[.slice none 0 0, .slice none 0 0]) (t := 35) ?hr ?_; (case hd => rfl); (case hg => rfl); (case hr => first | (go_simp; done) | (go_simp; rfl))
           intro gb218 hg w10 hbox hb; replace HO217 := vrb HO217 hb; have BK218 := vA (hbox); have GW218 := vA ((vg hg (vh HB))); have GE218 := GW218; replace HB := vbs HB hb; have NB211_218 := vn hg BK211; have NB218_211 := vN hg BK211; replace BK211 := vw BK211 hb; clear hb hbox hg
           refine hK.out _ _ trivial (fun hHeld => ?_)
           clear hK K; refine norm_ (a' := ?_) ?_ ?_; rotate_left
           ·show Act.put _ (some 1) _ = _
            refine qp ?_
            rfl
           exact norm_ (by first | (simp only [putAll, Act.put, List.setIfInBounds_toArray, List.set_cons_zero, List.set_cons_succ]; done) | (simp only [putAll, Act.put, List.setIfInBounds_toArray, List.set_cons_zero, List.set_cons_succ]; rfl)) (hJ1_3 (v216, gb218) _ ⟨(qr HO217.out), (qk BK211.out), (qk BK218.out), GW218.out, GE218.out, NB211_218.out, NB218_211.out, (vh HB)⟩)
        ·skip
         rintro v213 w9 ⟨h0_, h1_, h2_⟩
         have HO214 : Aside0 (Kd.R Kd.bool 4 w9 w.heap.size (fun _ => True) v213 y212) := ⟨h0_⟩
         replace BK211 : Aside0 (w9.heap[gb211]? = some (.cells #[.slice none 0 0, .slice none 0 0] 35 (0, 0))) := ⟨h1_⟩; replace HB : Aside0 (Below w.heap.size w w9) := ⟨h2_⟩; clear h0_ h1_ h2_; have hHeld := trivial; refine norm_ (a' := ?_) ?_ ?_; rotate_left
         ·simp only [putAll, Act.put, List.setIfInBounds_toArray, List.set_cons_zero, List.set_cons_succ]
          rfl
         refine two_ (i := 1) (j := 3) (Ni := some 3) (Nj := some 1) #[true, true, false, false, false] #[true, false, false, true, false] rfl rfl rfl rfl (by kernel_rfl) (by decide) (by decide) (fun K hK => ?_) (fun K hK => ?_)
         ·skip
          refine Kd.R_make_step Kd.bool _ 4 (by rfl) (N := 3) rfl 22 _ _ rfl 8 rfl rfl Try.underlying22 (.bool false) 1 info4 rfl (by decide) (by omega) false (ok := fun _ => True) (okp := fun _ => True) rfl (fun _ hk => hk) trivial (by omega) (by omega) (Below.refl _ _) (Nat.le_refl _) ?_
          intro v216 w10 ho11 hb hg_ hnew_; clear hg_ hnew_
          (first | rw [← Ny215.out] at ho11 | (simp only [Int.reduceToNat] at ho11; rw [← Ny215.out] at ho11))
          have HO217 := vA (Kd.R_lower (Kd.R_new' ho11 (Kd.R_lt (qr HO214.out))) (below_size (vh HB))); replace HO214 := vA (Kd.R_elder' (qr HO214.out) (Kd.R_base ho11) hb); replace BK211 := vw BK211 hb; replace HB := vbs HB hb; clear hb ho11; obtain ⟨Ao12, co12, eo12⟩ := Kd.R_slice HO217.out
          (first | subst eo12 | (injection eo12 with f1_ f2_ f3_; have f4_ := f1_.symm; have f5_ := f3_.symm; clear f1_ f2_ f3_; subst f4_; subst f5_))
          obtain ⟨Ao13, co13, eo13⟩ := Kd.R_slice HO214.out
          (first | subst eo13 | (injection eo13 with f1_ f2_ f3_; have f4_ := f1_.symm; have f5_ := f3_.symm; clear f1_ f2_ f3_; subst f4_; subst f5_))
          refine hK.out _ _ trivial (fun hHeld => ?_)
          clear hK K; refine norm_ (a' := ?_) ?_ ?_; rotate_left
          ·show Act.put _ (some 3) _ = _
           refine qp ?_
           rfl
          refine pure_ (i := 2) (N := some 4) (v := ?_) (a' := ?_) #[true, true, true, false, false] rfl rfl (by kernel_rfl) (fun _ _ _ h => h) (Or.inl ⟨by rfl, ?_⟩) ?_ ?_
          rotate_left
          ·intro w'
           go_simp
           with_reducible rfl
          rotate_left
          ·refine qp ?_
           rfl
          exact norm_ (by first | (simp only [putAll, Act.put, List.setIfInBounds_toArray, List.set_cons_zero, List.set_cons_succ]; done) | (simp only [putAll, Act.put, List.setIfInBounds_toArray, List.set_cons_zero, List.set_cons_succ]; rfl)) (hJ0_1 (.slice Ao13 y212.length co13, .slice Ao12 y215.length co12) _ ⟨(by refine qR ?_; exact Kd.R_mono HO214.out (fun _ hk => hk.2)), (by refine qR ?_; exact Kd.R_mono HO217.out (fun _ hk => hk.2)), (qk BK211.out), (vh HB)⟩)
         ·skip
          refine box_step ?hg (N := 1) ?hd (cs := #[.slice none 0 0, .slice none 0 0]) (t := 35) ?hr ?_; (case hd => rfl); (case hg => rfl); (case hr => first | (go_simp; done) | (go_simp; rfl))
          intro gb218 hg w10 hbox hb; replace HO214 := vrb HO214 hb; have BK218 := vA (hbox); have GW218 := vA ((vg hg (vh HB))); have GE218 := GW218; replace HB := vbs HB hb; have NB211_218 := vn hg BK211; have NB218_211 := vN hg BK211; replace BK211 := vw BK211 hb; clear hb hbox hg
          refine hK.out _ _ trivial (fun hHeld => ?_)
          clear hK K; refine norm_ (a' := ?_) ?_ ?_; rotate_left
          ·show Act.put _ (some 1) _ = _
           refine qp ?_
           rfl
          exact norm_ (by first | (simp only [putAll, Act.put, List.setIfInBounds_toArray, List.set_cons_zero, List.set_cons_succ]; done) | (simp only [putAll, Act.put, List.setIfInBounds_toArray, List.set_cons_zero, List.set_cons_succ]; rfl)) (hJ0_3 (v213, gb218) _ ⟨(qr HO214.out), (qk BK211.out), (qk BK218.out), GW218.out, GE218.out, NB211_218.out, NB218_211.out, (vh HB)⟩)
       ·skip
        rintro ⟨v216, gb218⟩ w10 ⟨h0_, h1_, h2_, h3_, h4_, h5_, h6_, h7_⟩
        have HO217 : Aside0 (Kd.R Kd.bool 4 w10 w.heap.size (fun _ => True) v216 y215) := ⟨h0_⟩
        replace BK211 : Aside0 (w10.heap[gb211]? = some (.cells #[.slice none 0 0, .slice none 0 0] 35 (0, 0))) := ⟨h1_⟩; have BK218 : Aside0 (w10.heap[gb218]? = some (.cells #[.slice none 0 0, .slice none 0 0] 35 (0, 0))) := ⟨h2_⟩; have GW218 : Aside0 (w.heap.size ≤ gb218) := ⟨h3_⟩; have GE218 : Aside0 (w.heap.size ≤ gb218) := ⟨h4_⟩; have NB211_218 : Aside0 (gb211 ≠ gb218) := ⟨h5_⟩; have NB218_211 : Aside0 (gb218 ≠ gb211) := ⟨h6_⟩; replace HB : Aside0 (Below w.heap.size w w10) := ⟨h7_⟩; clear h0_ h1_ h2_ h3_ h4_ h5_ h6_ h7_; have hHeld := trivial; refine norm_ (a' := ?_) ?_ ?_; rotate_left
        ·simp only [putAll, Act.put, List.setIfInBounds_toArray, List.set_cons_zero, List.set_cons_succ]
         rfl
        refine one_ (i := 0) (N := some 2) #[true, true, false, true, false] rfl rfl (by kernel_rfl) (by decide) (fun K hK => ?_)
        refine Kd.R_make_step Kd.bool _ 4 (by rfl) (N := 2) rfl 22 _ _ rfl 16 rfl rfl Try.underlying22 (.bool false) 1 info4 rfl (by decide) (by omega) false (ok := fun _ => True) (okp := fun _ => True) rfl (fun _ hk => hk) trivial (by omega) (by omega) (Below.refl _ _) (Nat.le_refl _) ?_
        intro v213 w11 ho12 hb hg_ hnew_; clear hg_ hnew_
        (first | rw [← Ny212.out] at ho12 | (simp only [Int.reduceToNat] at ho12; rw [← Ny212.out] at ho12))
        have HO214 := vA (Kd.R_lower (Kd.R_new' ho12 (Kd.R_lt (qr HO217.out))) (below_size (vh HB))); replace HO217 := vA (Kd.R_elder' (qr HO217.out) (Kd.R_base ho12) hb); replace BK211 := vw BK211 hb; replace BK218 := vw BK218 hb; replace HB := vbs HB hb; clear hb ho12; obtain ⟨Ao13, co13, eo13⟩ := Kd.R_slice HO217.out
        (first | subst eo13 | (injection eo13 with f1_ f2_ f3_; have f4_ := f1_.symm; have f5_ := f3_.symm; clear f1_ f2_ f3_; subst f4_; subst f5_))
        obtain ⟨Ao14, co14, eo14⟩ := Kd.R_slice HO214.out
        (first | subst eo14 | (injection eo14 with f1_ f2_ f3_; have f4_ := f1_.symm; have f5_ := f3_.symm; clear f1_ f2_ f3_; subst f4_; subst f5_))
        refine hK.out _ _ trivial (fun hHeld => ?_)
        clear hK K; refine norm_ (a' := ?_) ?_ ?_; rotate_left
        ·show Act.put _ (some 2) _ = _
         refine qp ?_
         rfl
        refine pure_ (i := 2) (N := some 4) (v := ?_) (a' := ?_) #[true, true, true, true, false] rfl rfl (by kernel_rfl) (fun _ _ _ h => h) (Or.inl ⟨by rfl, ?_⟩) ?_ ?_
        rotate_left
        ·intro w'
         go_simp
         with_reducible rfl
        rotate_left
        ·refine qp ?_
         rfl
        exact norm_ (by first | (simp only [putAll, Act.put, List.setIfInBounds_toArray, List.set_cons_zero, List.set_cons_succ]; done) | (simp only [putAll, Act.put, List.setIfInBounds_toArray, List.set_cons_zero, List.set_cons_succ]; rfl)) (hJ0_1_3 (.slice Ao14 y212.length co14, .slice Ao13 y215.length co13, gb218) _ ⟨(by refine qR ?_; exact Kd.R_mono HO214.out (fun _ hk => hk.2)), (by refine qR ?_; exact Kd.R_mono HO217.out (fun _ hk => hk.2)), (qk BK211.out), (qk BK218.out), GW218.out, GE218.out, NB211_218.out, NB218_211.out, (vh HB)⟩)
      ·skip
       rintro ⟨v213, gb218⟩ w10 ⟨h0_, h1_, h2_, h3_, h4_, h5_, h6_, h7_⟩
       have HO214 : Aside0 (Kd.R Kd.bool 4 w10 w.heap.size (fun _ => True) v213 y212) := ⟨h0_⟩
       replace BK211 : Aside0 (w10.heap[gb211]? = some (.cells #[.slice none 0 0, .slice none 0 0] 35 (0, 0))) := ⟨h1_⟩; have BK218 : Aside0 (w10.heap[gb218]? = some (.cells #[.slice none 0 0, .slice none 0 0] 35 (0, 0))) := ⟨h2_⟩; have GW218 : Aside0 (w.heap.size ≤ gb218) := ⟨h3_⟩; have GE218 : Aside0 (w.heap.size ≤ gb218) := ⟨h4_⟩; have NB211_218 : Aside0 (gb211 ≠ gb218) := ⟨h5_⟩; have NB218_211 : Aside0 (gb218 ≠ gb211) := ⟨h6_⟩; replace HB : Aside0 (Below w.heap.size w w10) := ⟨h7_⟩; clear h0_ h1_ h2_ h3_ h4_ h5_ h6_ h7_; have hHeld := trivial; refine norm_ (a' := ?_) ?_ ?_; rotate_left
       ·simp only [putAll, Act.put, List.setIfInBounds_toArray, List.set_cons_zero, List.set_cons_succ]
        rfl
       refine one_ (i := 1) (N := some 3) #[true, true, false, true, false] rfl rfl (by kernel_rfl) (by decide) (fun K hK => ?_)
       refine Kd.R_make_step Kd.bool _ 4 (by rfl) (N := 3) rfl 22 _ _ rfl 8 rfl rfl Try.underlying22 (.bool false) 1 info4 rfl (by decide) (by omega) false (ok := fun _ => True) (okp := fun _ => True) rfl (fun _ hk => hk) trivial (by omega) (by omega) (Below.refl _ _) (Nat.le_refl _) ?_
       intro v216 w11 ho12 hb hg_ hnew_; clear hg_ hnew_
       (first | rw [← Ny215.out] at ho12 | (simp only [Int.reduceToNat] at ho12; rw [← Ny215.out] at ho12))
       have HO217 := vA (Kd.R_lower (Kd.R_new' ho12 (Kd.R_lt (qr HO214.out))) (below_size (vh HB))); replace HO214 := vA (Kd.R_elder' (qr HO214.out) (Kd.R_base ho12) hb); replace BK211 := vw BK211 hb; replace BK218 := vw BK218 hb; replace HB := vbs HB hb; clear hb ho12; obtain ⟨Ao13, co13, eo13⟩ := Kd.R_slice HO217.out
       (first | subst eo13 | (injection eo13 with f1_ f2_ f3_; have f4_ := f1_.symm; have f5_ := f3_.symm; clear f1_ f2_ f3_; subst f4_; subst f5_))
       obtain ⟨Ao14, co14, eo14⟩ := Kd.R_slice HO214.out
       (first | subst eo14 | (injection eo14 with f1_ f2_ f3_; have f4_ := f1_.symm; have f5_ := f3_.symm; clear f1_ f2_ f3_; subst f4_; subst f5_))
       refine hK.out _ _ trivial (fun hHeld => ?_)
       clear hK K; refine norm_ (a' := ?_) ?_ ?_; rotate_left
       ·show Act.put _ (some 3) _ = _
        refine qp ?_
        rfl
       refine pure_ (i := 2) (N := some 4) (v := ?_) (a' := ?_) #[true, true, true, true, false] rfl rfl (by kernel_rfl) (fun _ _ _ h => h) (Or.inl ⟨by rfl, ?_⟩) ?_ ?_
       rotate_left
       ·intro w'
        go_simp
        with_reducible rfl
       rotate_left
       ·refine qp ?_
        rfl
       exact norm_ (by first | (simp only [putAll, Act.put, List.setIfInBounds_toArray, List.set_cons_zero, List.set_cons_succ]; done) | (simp only [putAll, Act.put, List.setIfInBounds_toArray, List.set_cons_zero, List.set_cons_succ]; rfl)) (hJ0_1_3 (.slice Ao14 y212.length co14, .slice Ao13 y215.length co13, gb218) _ ⟨(by refine qR ?_; exact Kd.R_mono HO214.out (fun _ hk => hk.2)), (by refine qR ?_; exact Kd.R_mono HO217.out (fun _ hk => hk.2)), (qk BK211.out), (qk BK218.out), GW218.out, GE218.out, NB211_218.out, NB218_211.out, (vh HB)⟩)
     ·skip
      rintro ⟨v213, v216⟩ w13 ⟨h0_, h1_, h2_, h3_⟩
      have HO214 : Aside0 (Kd.R Kd.bool 4 w13 w.heap.size (fun k_ => some k_ ≠ (v216 : Value).ownBlock) v213 y212) := ⟨h0_⟩
      have HO217 : Aside0 (Kd.R Kd.bool 4 w13 w.heap.size (fun k_ => some k_ ≠ (v213 : Value).ownBlock) v216 y215) := ⟨h1_⟩
      replace BK211 : Aside0 (w13.heap[gb211]? = some (.cells #[.slice none 0 0, .slice none 0 0] 35 (0, 0))) := ⟨h2_⟩; replace HB : Aside0 (Below w.heap.size w w13) := ⟨h3_⟩; clear h0_ h1_ h2_ h3_; have hHeld := trivial; obtain ⟨Ao14, co14, eo14⟩ := Kd.R_slice HO217.out
      (first | subst eo14 | (injection eo14 with f1_ f2_ f3_; have f4_ := f1_.symm; have f5_ := f3_.symm; clear f1_ f2_ f3_; subst f4_; subst f5_))
      obtain ⟨Ao15, co15, eo15⟩ := Kd.R_slice HO214.out
      (first | subst eo15 | (injection eo15 with f1_ f2_ f3_; have f4_ := f1_.symm; have f5_ := f3_.symm; clear f1_ f2_ f3_; subst f4_; subst f5_))
      refine norm_ (a' := ?_) ?_ ?_; rotate_left
      ·simp only [putAll, Act.put, List.setIfInBounds_toArray, List.set_cons_zero, List.set_cons_succ]
       rfl
      refine one_ (i := 3) (N := some 1) #[true, true, true, true, false] rfl rfl (by kernel_rfl) (by decide) (fun K hK => ?_)
      refine box_step ?hg (N := 1) ?hd (cs := #[.slice none 0 0, .slice none 0 0]) (t := 35) ?hr ?_; (case hd => rfl); (case hg => rfl); (case hr => first | (go_simp; done) | (go_simp; rfl))
      intro gb218 hg w16 hbox hb; replace HO214 := vrb HO214 hb; replace HO217 := vrb HO217 hb; have BK218 := vA (hbox); have GW218 := vA ((vg hg (vh HB))); have GE218 := GW218; replace HB := vbs HB hb; have NB211_218 := vn hg BK211; have NB218_211 := vN hg BK211; replace BK211 := vw BK211 hb; clear hb hbox hg
      refine hK.out _ _ trivial (fun hHeld => ?_)
      clear hK K; refine norm_ (a' := ?_) ?_ ?_; rotate_left
      ·show Act.put _ (some 1) _ = _
       refine qp ?_
       rfl
      exact norm_ (by first | (simp only [putAll, Act.put, List.setIfInBounds_toArray, List.set_cons_zero, List.set_cons_succ]; done) | (simp only [putAll, Act.put, List.setIfInBounds_toArray, List.set_cons_zero, List.set_cons_succ]; rfl)) (hJ0_1_3 (.slice Ao15 y212.length co15, .slice Ao14 y215.length co14, gb218) _ ⟨(qr HO214.out), (qr HO217.out), (qk BK211.out), (qk BK218.out), GW218.out, GE218.out, NB211_218.out, NB218_211.out, (vh HB)⟩)
    rintro ⟨v213, v216, gb218⟩ w14 ⟨h0_, h1_, h2_, h3_, h4_, h5_, h6_, h7_, h8_⟩
    have HO214 : Aside0 (Kd.R Kd.bool 4 w14 w.heap.size (fun k_ => some k_ ≠ (v216 : Value).ownBlock) v213 y212) := ⟨h0_⟩
    have HO217 : Aside0 (Kd.R Kd.bool 4 w14 w.heap.size (fun k_ => some k_ ≠ (v213 : Value).ownBlock) v216 y215) := ⟨h1_⟩
    replace BK211 : Aside0 (w14.heap[gb211]? = some (.cells #[.slice none 0 0, .slice none 0 0] 35 (0, 0))) := ⟨h2_⟩; have BK218 : Aside0 (w14.heap[gb218]? = some (.cells #[.slice none 0 0, .slice none 0 0] 35 (0, 0))) := ⟨h3_⟩; have GW218 : Aside0 (w.heap.size ≤ gb218) := ⟨h4_⟩; have GE218 : Aside0 (w.heap.size ≤ gb218) := ⟨h5_⟩; have NB211_218 : Aside0 (gb211 ≠ gb218) := ⟨h6_⟩; have NB218_211 : Aside0 (gb218 ≠ gb211) := ⟨h7_⟩; replace HB : Aside0 (Below w.heap.size w w14) := ⟨h8_⟩; clear h0_ h1_ h2_ h3_ h4_ h5_ h6_ h7_ h8_; have hHeld := trivial; obtain ⟨Ao15, co15, eo15⟩ := Kd.R_slice HO217.out
    (first | subst eo15 | (injection eo15 with f1_ f2_ f3_; have f4_ := f1_.symm; have f5_ := f3_.symm; clear f1_ f2_ f3_; subst f4_; subst f5_))
    obtain ⟨Ao16, co16, eo16⟩ := Kd.R_slice HO214.out
    (first | subst eo16 | (injection eo16 with f1_ f2_ f3_; have f4_ := f1_.symm; have f5_ := f3_.symm; clear f1_ f2_ f3_; subst f4_; subst f5_))
    refine norm_ (a' := ?_) ?_ ?_; rotate_left
    ·simp only [putAll, Act.put, List.setIfInBounds_toArray, List.set_cons_zero, List.set_cons_succ]
     rfl
    refine one_ (i := 4) (N := none) #[true, true, true, true, true] rfl rfl (by kernel_rfl) (by decide) (fun K hK => ?_)
    have hs17 : w14.cell? ⟨gb218, 0, none⟩ = some (.slice none 0 0) := (blk_cell BK218.out 0).trans rfl; have hfs17 := blk_frozen BK218.out 0; have hns17_0 := NB211_218.out; have hms17_0 := NB218_211.out; have hs18 : w14.cell? ⟨gb218, 1, none⟩ = some (.slice none 0 0) := (blk_cell BK218.out 1).trans rfl; have hfs18 := blk_frozen BK218.out 1; have hns18_0 := NB211_218.out; have hms18_0 := NB218_211.out
    refine skip_ (w1 := ?_) (by rfl) rfl ?_ ?_
    rotate_left
    ·go_simp
     rfl
    refine hK.out _ _ trivial (fun hHeld => ?_)
    clear hK K
    refine done_ (by kernel_rfl) ?_
    have n0_ : Aside0 (Kd.R Kd.bool 4 ((w14.setCell ⟨gb218, 0, none⟩ (.slice Ao16 y212.length co16)).setCell ⟨gb218, 1, none⟩ (.slice Ao15 y215.length co15)) w.heap.size (fun k_ => some k_ ≠ (.slice Ao15 y215.length co15 : Value).ownBlock) (.slice Ao16 y212.length co16) y212) := ⟨by refine qR ?_; exact Kd.R_mono (Kd.R_far (p := ⟨gb218, 1, none⟩) (Kd.R_far (p := ⟨gb218, 0, none⟩) (Kd.R_types HO214.out BK218.out (by decide)) (fun _ hk => hk.2) (.slice Ao16 y212.length co16)) (fun _ hk => hk.2) (.slice Ao15 y215.length co15)) (fun _ hk => hk.1)⟩
    have n1_ : Aside0 (Kd.R Kd.bool 4 ((w14.setCell ⟨gb218, 0, none⟩ (.slice Ao16 y212.length co16)).setCell ⟨gb218, 1, none⟩ (.slice Ao15 y215.length co15)) w.heap.size (fun k_ => some k_ ≠ (.slice Ao16 y212.length co16 : Value).ownBlock) (.slice Ao15 y215.length co15) y215) := ⟨by refine qR ?_; exact Kd.R_mono (Kd.R_far (p := ⟨gb218, 1, none⟩) (Kd.R_far (p := ⟨gb218, 0, none⟩) (Kd.R_types HO217.out BK218.out (by decide)) (fun _ hk => hk.2) (.slice Ao16 y212.length co16)) (fun _ hk => hk.2) (.slice Ao15 y215.length co15)) (fun _ hk => hk.1)⟩
    have n2_ : Aside0 (((w14.setCell ⟨gb218, 0, none⟩ (.slice Ao16 y212.length co16)).setCell ⟨gb218, 1, none⟩ (.slice Ao15 y215.length co15)).heap[gb211]? = some (.cells #[.slice none 0 0, .slice none 0 0] 35 (0, 0))) := ⟨by refine qK ?_; refine blk_far ?_ NB211_218.out _; refine qK ?_; refine blk_far ?_ NB211_218.out _; refine qK ?_; exact BK211.out⟩
    have n3_ : Aside0 (((w14.setCell ⟨gb218, 0, none⟩ (.slice Ao16 y212.length co16)).setCell ⟨gb218, 1, none⟩ (.slice Ao15 y215.length co15)).heap[gb218]? = some (.cells #[.slice Ao16 y212.length co16, .slice Ao15 y215.length co15] 35 (0, 0))) := ⟨by refine qK ?_; refine blk_put (cs := #[.slice Ao16 y212.length co16, .slice none 0 0]) ?_ 1 _ rfl; refine qK ?_; refine blk_put (cs := #[.slice none 0 0, .slice none 0 0]) ?_ 0 _ rfl; refine qK ?_; exact BK218.out⟩
    have n4_ : Aside0 (Below w.heap.size w ((w14.setCell ⟨gb218, 0, none⟩ (.slice Ao16 y212.length co16)).setCell ⟨gb218, 1, none⟩ (.slice Ao15 y215.length co15))) := ⟨qb2 HB.out GE211.out GE218.out⟩
    (try clear HO214)
    (try clear HO217)
    (try clear BK211)
    (try clear BK218)
    (try clear HB)
    generalize ((w14.setCell ⟨gb218, 0, none⟩ (.slice Ao16 y212.length co16)).setCell ⟨gb218, 1, none⟩ (.slice Ao15 y215.length co15)) = w19 at n0_ n1_ n2_ n3_ n4_ ⊢; have HO214 := n0_; have HO217 := n1_; have BK211 := n2_; have BK218 := n3_; have HB := n4_; clear n0_ n1_ n2_ n3_ n4_; have hnb20 := NB218_211.out; have hnc20 := NB211_218.out; obtain ⟨hcz21_0, hcz21_1⟩ := v2c BK218.out; obtain ⟨hfz21_0, hfz21_1⟩ := v2f BK218.out
    have p4 : 0 ≤ (0 : Int) := (by omega)
    have q4 : (0 : Int) < ((y215.length : Int) : Int) := qo
    have qi4 : (0 < y215.length) = True := eq_true (by omega)
    obtain ⟨go4, co4, eo4, gb4, gl4, cl4, HG4⟩ := Kd.R_form HO217.out (by omega)
    (first | cases eo4 | (injection eo4 with ea_ en_ ec_; (first | subst ea_ | (injection ea_ with ea_; subst ea_)); subst ec_; clear en_))
    have GB4 := vA gb4; have GG4 := vA HG4; clear gb4 gl4 HG4; obtain ⟨hx4_0, hf4_0⟩ := Kd.R_celln false HO217.out (0 : Int) p4 q4
    (try rw [show ((0 : Int)).toNat = 0 from rfl] at hx4_0)
    (try simp only [Nat.reduceMul, Nat.zero_mul, Nat.zero_add, Nat.reduceAdd] at hx4_0)
    (try rw [show ((0 : Int)).toNat = 0 from rfl] at hf4_0)
    (try simp only [Nat.reduceMul, Nat.zero_mul, Nat.zero_add, Nat.reduceAdd] at hf4_0)
    replace p4 := eq_true p4; replace q4 := eq_true q4
    obtain ⟨hy22_, hz22_⟩ := Kd.R_celln false HO217.out (0 : Int) (by omega) qo
    (try simp only [Int.reduceToNat, Int.toNat_zero, Int.toNat_ofNat, Nat.reduceMul, Nat.zero_mul, Nat.zero_add] at hy22_ hz22_)
    (try rw [show ((0 : Int)).toNat = 0 from rfl] at hy22_)
    (try rw [show ((0 : Int)).toNat = 0 from rfl] at hz22_)
    have HP22 := Kd.R_putg HO217.out (0 : Int) true
    try go_wp2_with (first | ((with_reducible refine gate_store (t := 4) (p := 7) rfl ?_); refine store_event (t := 4) (p := 7) (v := ?vo_w23) (w1 := (w19.setCell ⟨go4, (0 : Int).toNat, none⟩ (.bool true))) ?hg ?ho ?hn ?hr ?_; (case ho => rfl); (case hg => rfl); (case hn => rfl); (case hr => first | (go_simp; done) | (go_simp; rfl)); intro w23 hw; have hg : w19.grownBy w23 (some go4) := (by rw [hw]; exact HP22.2); have hp_ : Kd.R Kd.bool 4 w23 w.heap.size (fun k_ => some k_ ≠ (.slice Ao16 y212.length co16 : Value).ownBlock) (.slice (some ⟨go4, 0, none⟩) y215.length co15) y219 := (by rw [hw, Ny219.out]; exact HP22.1); clear HP22; replace BK211 := vG BK211 hg (Kd.R_ne HO217.out BK211.out (by decide)); replace HO214 := vA (Kd.R_after (v := (.slice (some ⟨go4, 0, none⟩) y215.length co15)) (v1 := (.slice (some ⟨go4, 0, none⟩) y215.length co15)) (ok := (fun _ => True)) (by refine qR ?_; exact Kd.R_mono HO214.out (fun _ hk => ⟨trivial, hk⟩)) hg (.inl rfl)); replace BK218 := vG BK218 hg (Kd.R_ne HO217.out BK218.out (by decide)); replace HO217 := vA (hp_); replace HB := vA ((by rw [hw]; exact below_set (HB.out) GB4.out : Below w.heap.size w w23)); clear hg hw hp_; obtain ⟨hcz24_0, hcz24_1⟩ := v2c BK218.out; obtain ⟨hfz24_0, hfz24_1⟩ := v2f BK218.out; obtain ⟨hcz25_0, hcz25_1⟩ := v2c BK211.out; obtain ⟨hfz25_0, hfz25_1⟩ := v2f BK211.out))
    refine bodyPost_ret (results_cell_row rfl _ _ gb211 35 #[.slice Ao16 y212.length co16, .slice (some ⟨go4, 0, none⟩) y215.length co15] (0, 0) _ rfl (blk_put (blk_put BK211.out 0 _ rfl) 1 _ rfl) Try.underlying35 rfl (by kernel_rfl)) rfl ?_
    exact ⟨_, _, qe, by refine qR ?_; exact Kd.R_mono (Kd.R_far (p := ⟨gb211, 1, none⟩) (Kd.R_far (p := ⟨gb211, 0, none⟩) (Kd.R_types HO214.out BK211.out (by decide)) (fun _ hk => hk.2) (.slice Ao16 y212.length co16)) (fun _ hk => hk.2) (.slice (some ⟨go4, 0, none⟩) y215.length co15)) (fun _ hk => hk.1.2), by refine qR ?_; exact Kd.R_mono (Kd.R_far (p := ⟨gb211, 1, none⟩) (Kd.R_far (p := ⟨gb211, 0, none⟩) (Kd.R_types HO217.out BK211.out (by decide)) (fun _ hk => hk.2) (.slice Ao16 y212.length co16)) (fun _ hk => hk.2) (.slice (some ⟨go4, 0, none⟩) y215.length co15)) (fun _ hk => hk.1), qb2 HB.out GE211.out GE218.out⟩
   ·rw [if_neg c3] at H
    exact absurd H (by simp)
  ·rw [if_neg c2] at H
   exact absurd H (by simp)
 ·rw [if_neg c1] at H
  exact absurd H (by simp)

/-! ### spec_InodeNew: function 77 -/
def spec_InodeNew.f (a0 : Int) : Option (Int × Int × List Int) := if 2 ≤ 35184372088832 then ((some (List.replicate 2 0 : List Int)).bind fun y221 => (if a0 = 0 then (some (a0, 0, y221)) else (some (a0, 1, y221)))) else (none)
set_option maxHeartbeats 8000000 in
set_option maxRecDepth 100000 in
theorem spec_InodeNew.calls (a0 : Int) (r1 : Int) (r2 : Int) (r3 : List Int) (w : World) (h : spec_InodeNew.f a0 = some (r1, r2, r3)) :
  Calls Try.prog 77 #[.int .i64 a0] w fun e w' => ∃ v2_ : Value, e = .returned (.agg #[.int .i64 r1, .int .i64 r2, v2_]) ∧ Kd.R (Kd.int .i64) 3 w' w.heap.size (fun _ => True) v2_ r3 ∧ Below w.heap.size w w' := by
 have hu105 := Try.underlying105
 have HB := vA (Below.refl w.heap.size w)
 have H : (if 2 ≤ 35184372088832 then ((some (List.replicate 2 0 : List Int)).bind fun y221 => (if a0 = 0 then (some (a0, 0, y221)) else (some (a0, 1, y221)))) else (none)) = some (r1, r2, r3) := h
 clear h
 by_cases c2 : 2 ≤ 35184372088832
 ·rw [if_pos c2] at H
  have c2b0 := eq_true c2; have c2b1 : decide (2 ≤ 35184372088832) = true := decide_eq_true c2; clear c2; obtain ⟨y221, hy221⟩ : ∃ y_ : List Int, y_ = (List.replicate 2 0) := ⟨_, rfl⟩
  first | rw [Option.bind_some, ← hy221] at H | rw [← hy221] at H
  have Ny221 := vA hy221; clear hy221
  by_cases c3 : a0 = 0
  ·rw [if_pos c3] at H
   have c3b0 : (a0 == 0) = true := beq_iff_eq.mpr c3; have c3b1 : (a0 != 0) = false := bne_eq_false_iff_eq.mpr c3; clear c3
   simp only [Option.some.injEq, Prod.mk.injEq] at H
   obtain ⟨rfl, rfl, rfl⟩ := H
   go_enter Try.func77, Try.ntmps77
   go_wp2_with (first | ((with_reducible refine gate_dst (N := 2) rfl ?_); refine vx (N := 2) (cs := #[.int .i64 0, .int .i64 0, .slice none 0 0]) (t := 105) ?_; intro gb220 hg w4 hbox hb; have BK220 := vA (hbox); have GW220 := vA ((vg hg (qb HB.out))); have GE220 := GW220; replace HB := vbs HB hb; clear hb hbox hg) | ((with_reducible refine gate_dst (N := 5) rfl ?_); refine Kd.R_make (Kd.int .i64) _ 3 rfl (N := 5) rfl 103 _ _ rfl 2 rfl rfl Try.underlying103 (.int .i64 0) 8 info3 rfl (by decide) (by omega) 0 (ok := fun _ => True) (okp := fun _ => True) rfl (fun _ hk => hk) trivial (by omega) (by omega) (Below.refl _ _) (Nat.le_refl _) ?_; intro v222 w5 ho6 hb hg_ hnew_; clear hg_ hnew_; (first | rw [← Ny221.out] at ho6 | (simp only [Int.reduceToNat] at ho6; rw [← Ny221.out] at ho6)); have HO223 := vA (Kd.R_lower ho6 (below_size (vh HB))); replace BK220 := vw BK220 hb; replace HB := vbs HB hb; clear hb ho6; obtain ⟨Ao7, co7, eo7⟩ := Kd.R_slice HO223.out; subst eo7) | ((with_reducible refine gate_dst (N := 3) rfl ?_); refine vx (N := 3) (cs := #[.int .i64 0, .int .i64 0, .slice none 0 0]) (t := 105) ?_; intro gb224 hg w8 hbox hb; replace HO223 := vrb HO223 hb; have BK224 := vA (hbox); have GW224 := vA ((vg hg (vh HB))); have GE224 := GW224; replace HB := vbs HB hb; have NB220_224 := vn hg BK220; have NB224_220 := vN hg BK220; replace BK220 := vw BK220 hb; clear hb hbox hg; have hnb9 := NB224_220.out; have hnc9 := NB220_224.out; obtain ⟨hcz10_0, hcz10_1, hcz10_2⟩ := v3c BK224.out; obtain ⟨hfz10_0, hfz10_1, hfz10_2⟩ := v3f BK224.out; obtain ⟨hcz11_0, hcz11_1, hcz11_2⟩ := v3c BK220.out; obtain ⟨hfz11_0, hfz11_1, hfz11_2⟩ := v3f BK220.out))
   refine bodyPost_ret (results_cell_row rfl _ _ gb220 105 #[.int .i64 a0, .int .i64 0, .slice Ao7 y221.length co7] (0, 0) _ rfl (by refine qK ?_; refine blk_put (cs := #[.int .i64 a0, .int .i64 0, .slice none 0 0]) ?_ 2 _ rfl; refine qK ?_; refine blk_put (cs := #[.int .i64 a0, .int .i64 0, .slice none 0 0]) ?_ 1 _ rfl; refine qK ?_; refine blk_put (cs := #[.int .i64 0, .int .i64 0, .slice none 0 0]) ?_ 0 _ rfl; refine qK ?_; refine blk_far ?_ NB220_224.out _; refine qK ?_; refine blk_far ?_ NB220_224.out _; refine qK ?_; refine blk_far ?_ NB220_224.out _; refine qK ?_; refine blk_far ?_ NB220_224.out _; refine qK ?_; exact BK220.out) Try.underlying105 rfl (by kernel_rfl)) rfl ?_
   exact ⟨_, qe, by refine qR ?_; exact Kd.R_mono (Kd.R_far (p := ⟨gb220, 2, none⟩) (Kd.R_far (p := ⟨gb220, 1, none⟩) (Kd.R_far (p := ⟨gb220, 0, none⟩) (Kd.R_far (p := ⟨gb224, 1, none⟩) (Kd.R_far (p := ⟨gb224, 2, none⟩) (Kd.R_far (p := ⟨gb224, 1, none⟩) (Kd.R_far (p := ⟨gb224, 0, none⟩) (Kd.R_types (Kd.R_types HO223.out BK224.out (by decide)) BK220.out (by decide)) (fun _ hk => hk.1.2) (.int .i64 a0)) (fun _ hk => hk.1.2) (.int .i64 1)) (fun _ hk => hk.1.2) (.slice Ao7 y221.length co7)) (fun _ hk => hk.1.2) (.int .i64 0)) (fun _ hk => hk.2) (.int .i64 a0)) (fun _ hk => hk.2) (.int .i64 0)) (fun _ hk => hk.2) (.slice Ao7 y221.length co7)) (fun _ hk => trivial), qb2 HB.out GE220.out GE224.out⟩
  ·rw [if_neg c3] at H
   have c3b0 : (a0 == 0) = false := beq_eq_false_iff_ne.mpr c3; have c3b1 : (a0 != 0) = true := bne_iff_ne.mpr c3
   simp only [Option.some.injEq, Prod.mk.injEq] at H
   obtain ⟨rfl, rfl, rfl⟩ := H
   go_enter Try.func77, Try.ntmps77
   go_wp2_with (first | ((with_reducible refine gate_dst (N := 2) rfl ?_); refine vx (N := 2) (cs := #[.int .i64 0, .int .i64 0, .slice none 0 0]) (t := 105) ?_; intro gb220 hg w12 hbox hb; have BK220 := vA (hbox); have GW220 := vA ((vg hg (qb HB.out))); have GE220 := GW220; replace HB := vbs HB hb; clear hb hbox hg) | ((with_reducible refine gate_dst (N := 5) rfl ?_); refine Kd.R_make (Kd.int .i64) _ 3 rfl (N := 5) rfl 103 _ _ rfl 2 rfl rfl Try.underlying103 (.int .i64 0) 8 info3 rfl (by decide) (by omega) 0 (ok := fun _ => True) (okp := fun _ => True) rfl (fun _ hk => hk) trivial (by omega) (by omega) (Below.refl _ _) (Nat.le_refl _) ?_; intro v222 w13 ho14 hb hg_ hnew_; clear hg_ hnew_; (first | rw [← Ny221.out] at ho14 | (simp only [Int.reduceToNat] at ho14; rw [← Ny221.out] at ho14)); have HO223 := vA (Kd.R_lower ho14 (below_size (vh HB))); replace BK220 := vw BK220 hb; replace HB := vbs HB hb; clear hb ho14; obtain ⟨Ao15, co15, eo15⟩ := Kd.R_slice HO223.out; subst eo15) | ((with_reducible refine gate_dst (N := 3) rfl ?_); refine vx (N := 3) (cs := #[.int .i64 0, .int .i64 0, .slice none 0 0]) (t := 105) ?_; intro gb224 hg w16 hbox hb; replace HO223 := vrb HO223 hb; have BK224 := vA (hbox); have GW224 := vA ((vg hg (vh HB))); have GE224 := GW224; replace HB := vbs HB hb; have NB220_224 := vn hg BK220; have NB224_220 := vN hg BK220; replace BK220 := vw BK220 hb; clear hb hbox hg; have hnb17 := NB224_220.out; have hnc17 := NB220_224.out; obtain ⟨hcz18_0, hcz18_1, hcz18_2⟩ := v3c BK224.out; obtain ⟨hfz18_0, hfz18_1, hfz18_2⟩ := v3f BK224.out; obtain ⟨hcz19_0, hcz19_1, hcz19_2⟩ := v3c BK220.out; obtain ⟨hfz19_0, hfz19_1, hfz19_2⟩ := v3f BK220.out))
   refine bodyPost_ret (results_cell_row rfl _ _ gb220 105 #[.int .i64 a0, .int .i64 1, .slice Ao15 y221.length co15] (0, 0) _ rfl (by refine qK ?_; refine blk_put (cs := #[.int .i64 a0, .int .i64 1, .slice none 0 0]) ?_ 2 _ rfl; refine qK ?_; refine blk_put (cs := #[.int .i64 a0, .int .i64 0, .slice none 0 0]) ?_ 1 _ rfl; refine qK ?_; refine blk_put (cs := #[.int .i64 0, .int .i64 0, .slice none 0 0]) ?_ 0 _ rfl; refine qK ?_; refine blk_far ?_ NB220_224.out _; refine qK ?_; refine blk_far ?_ NB220_224.out _; refine qK ?_; refine blk_far ?_ NB220_224.out _; refine qK ?_; exact BK220.out) Try.underlying105 rfl (by kernel_rfl)) rfl ?_
   exact ⟨_, qe, by refine qR ?_; exact Kd.R_mono (Kd.R_far (p := ⟨gb220, 2, none⟩) (Kd.R_far (p := ⟨gb220, 1, none⟩) (Kd.R_far (p := ⟨gb220, 0, none⟩) (Kd.R_far (p := ⟨gb224, 2, none⟩) (Kd.R_far (p := ⟨gb224, 1, none⟩) (Kd.R_far (p := ⟨gb224, 0, none⟩) (Kd.R_types (Kd.R_types HO223.out BK224.out (by decide)) BK220.out (by decide)) (fun _ hk => hk.1.2) (.int .i64 a0)) (fun _ hk => hk.1.2) (.int .i64 1)) (fun _ hk => hk.1.2) (.slice Ao15 y221.length co15)) (fun _ hk => hk.2) (.int .i64 a0)) (fun _ hk => hk.2) (.int .i64 1)) (fun _ hk => hk.2) (.slice Ao15 y221.length co15)) (fun _ hk => trivial), qb2 HB.out GE220.out GE224.out⟩
 ·rw [if_neg c2] at H
  exact absurd H (by simp)

end Go.Proofs.Ytdnbpapolckklaa.PFnExactDiskOf
