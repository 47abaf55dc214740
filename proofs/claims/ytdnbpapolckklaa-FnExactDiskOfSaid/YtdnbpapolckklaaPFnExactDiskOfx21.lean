-- Written by a program of this session (a changed copy of the kit's print: wip/print2). Lean checks it.
import Derived.Test.YtdnbpapolckklaaPax
import Derived.Test.YtdnbpapolckklaaPFnExactDiskOfx0
import Derived.Test.YtdnbpapolckklaaPFnExactDiskOfx20
namespace Go.Proofs.Ytdnbpapolckklaa.PFnExactDiskOf
open Go.RowKit Go.Proofs.YtdnbpapolckklaaW.PrintWords Go.Proofs.YtdnbpapolckklaaW.PrintLast Go.Proofs.YtdnbpapolckklaaW.PrintMore
attribute [local go_sem] max2_int min2_int max_two min_two max_three min_three max_four min_four   -- for this text's walks alone
attribute [local go_sem] Go.Proofs.Ytdnbpapolckklaa.Pad.isSome_setCell
set_option linter.unusedVariables false
set_option linter.unusedSimpArgs false

/-! ### slices_Repeat_bool_bool: function 82, by hand: [true], 16 or 8 times -/
def slices_Repeat_bool_bool.f (l0 : List Bool) (a1 : Int) : Option (List Bool) := if l0 = [true] ∧ (a1 = 16 ∨ a1 = 8) then some (List.replicate a1.toNat true) else none
/-- The first n true, the others false; then what else the row has room for. -/
def slices_Repeat_bool_bool.tf (N n : Nat) (R : List Value) : List Value := List.replicate n (Value.bool true) ++ (List.replicate (N - n) (Value.bool false) ++ R)
theorem slices_Repeat_bool_bool.tf_splice (N n c : Nat) (R : List Value) (h : n + c ≤ N) : splice (slices_Repeat_bool_bool.tf N n R) n (List.replicate c (Value.bool true)) = slices_Repeat_bool_bool.tf N (n + c) R := by
 have e : slices_Repeat_bool_bool.tf N n R = List.replicate n (Value.bool true) ++ (List.replicate c (Value.bool false) ++ (List.replicate (N - (n + c)) (Value.bool false) ++ R)) := by
  rw [← List.append_assoc (List.replicate c (Value.bool false)), List.replicate_append_replicate, show c + (N - (n + c)) = N - n by omega]
  rfl
 rw [e]
 unfold splice slices_Repeat_bool_bool.tf
 rw [List.take_left' (by simp), List.length_replicate, ← List.drop_drop, List.drop_left' (by simp), List.drop_left' (by simp), ← List.append_assoc (List.replicate n (Value.bool true)), List.replicate_append_replicate]
theorem slices_Repeat_bool_bool.tf_cell {w : World} {g N n c : Nat} {R : List Value} (h : w.heap[g]? = some (.cells (slices_Repeat_bool_bool.tf N n R).toArray 4 (0, 0))) (hc : c ≤ n) : ∀ (j : Nat) (v : Value), (List.replicate c (Value.bool true))[j]? = some v → w.cell? ((⟨g, 0, none⟩ : Addr).add j) = some v := by
 intro j v hj
 have hlt : j < c := by
  have := (List.getElem?_eq_some_iff.1 hj).1
  simpa using this
 have hv : v = .bool true := by
  rw [List.getElem?_replicate] at hj
  simp only [hlt, if_true, Option.some.injEq] at hj
  exact hj.symm
 subst hv
 have e : (⟨g, 0, none⟩ : Addr).add j = ⟨g, j, none⟩ := by simp [Addr.add]; omega
 rw [e, blk_cell h j]
 simp only [slices_Repeat_bool_bool.tf, List.getElem?_toArray]
 rw [List.getElem?_append_left (by simp; omega), List.getElem?_replicate, if_pos (by omega)]
set_option maxHeartbeats 4000000 in
set_option maxRecDepth 100000 in
theorem slices_Repeat_bool_bool.calls16 (ad : Addr) (c0 : Nat) (w : World) (hcell : w.cell? ad = some (.bool true)) :
  Calls Try.prog 82 #[.slice (some ad) 1 c0, .int .i64 16] w fun e w' => ∃ v0_ : Value, e = .returned v0_ ∧ Kd.R Kd.bool 4 w' w.heap.size (fun _ => True) v0_ (List.replicate 16 true) ∧ Below w.heap.size w w' := by
 have HC := vA hcell
 clear hcell
 go_enter Try.func82, Try.ntmps82
 go_wp2_with (go_at_call 9)
 refine (bits_Mul.calls 1 16 0 16 _ (by decide)).mono ?_
 rintro e w1 ⟨rfl, m1, rfl⟩
 have HB := vA (pw_below_drewN (Below.refl w.heap.size w) m1)
 have HC := vA (show (w.drewN m1).cell? ad = some (.bool true) from HC.out)
 generalize w.drewN m1 = w1 at HB HC ⊢
 go_wp2_with ((with_reducible refine gate_dst (N := 30) rfl ?_); refine Kd.R_make Kd.bool _ 4 rfl (N := 30) rfl 22 _ _ rfl (16 : Int) rfl rfl Try.underlying22 (.bool false) 1 info4 rfl (by decide) (by omega) false (ok := fun _ => True) (okp := fun _ => True) rfl (fun _ hk => hk) trivial (by decide) (by decide) (Below.refl _ _) (Nat.le_refl _) ?_)
 intro v1 w2 ho hb2 _ _ _ _
 have ho : Kd.R Kd.bool 4 w2 w1.heap.size (fun _ => True) v1 (List.replicate 16 false) := ho
 obtain ⟨hl, h1 | ⟨g, cap, cur, ev, hge, hcells, h16, hmax, hsz, htk⟩⟩ := Kd.own_of_R ho
 ·exact absurd h1.2 (by decide)
 rw [List.length_replicate] at ev h16
 subst ev
 have HC := vA (pw_cell_below hb2 HC.out)
 have HG := vA (Nat.le_trans HB.out.size hge)
 have HB := vA (below_step HB.out hb2)
 obtain ⟨R, hR⟩ : ∃ R, cur = (slices_Repeat_bool_bool.tf 16 0 R).toArray := ⟨cur.toList.drop 16, by
  apply Array.toList_inj.1
  rw [← List.take_append_drop 16 cur.toList]; have e : cur.toList.take 16 = List.replicate 16 (Value.bool false) := htk; rw [e]
  simp [slices_Repeat_bool_bool.tf]⟩
 subst hR
 have HS := vA (show 16 + R.length = cap by have h := hsz; simp [slices_Repeat_bool_bool.tf] at h; omega)
 have HM := vA (And.intro h16 hmax)
 have HH := vA hcells
 clear ho hb2 hl hge hcells h16 hmax hsz htk
 go_wp2_with ((with_reducible refine gate_dst (N := 33) rfl ?_); revert HH)
 intro HH
 refine wpList_copy_splice rfl (.tmp 31) (.tmp 32) 22 22 rfl 4 Try.underlying22 (by kernel_rfl) (some ⟨g, 0, none⟩) (some ad) 16 cap 1 c0 rfl rfl g 0 (slices_Repeat_bool_bool.tf 16 0 R) 4 HH.out [Value.bool true] rfl (fun _ => ⟨rfl, ad, rfl, ?csrc⟩) (by simp [slices_Repeat_bool_bool.tf] <;> omega) (by intro v hv; rw [List.mem_singleton.1 hv]; rfl) w.heap.size w HB.out HG.out ?_
 case csrc => intro j v hj; cases j with | zero => (have e := Option.some.inj hj; subst e; exact HC.out) | succ j => simp at hj
 intro w3 h3 hb3
 have H3 := Aside0.mk (show w3.heap[g]? = some (.cells (slices_Repeat_bool_bool.tf 16 1 R).toArray 4 (0, 0)) from by
  have e := slices_Repeat_bool_bool.tf_splice 16 0 1 R (by decide)
  rw [Nat.zero_add] at e; rw [← e]; exact h3)
 have HB3 := vA hb3
 clear h3 hb3 HH HB HC ho
 go_wp2
 go_loopg [8] 16 (fun kq v8 w' => ∃ n : Nat, v8 = .int .i64 (n : Int) ∧ Aside0 (1 ≤ n ∧ n ≤ 16 ∧ 16 ≤ n + kq) ∧ Aside0 (w'.heap[g]? = some (.cells (slices_Repeat_bool_bool.tf 16 n R).toArray 4 (0, 0))) ∧ Aside0 (Below w.heap.size w w'))
 case atStart => exact ⟨1, rfl, ⟨by decide⟩, H3, HB3⟩
 case round =>
  clear H3 HB3; obtain ⟨n, rfl, HN, H3, HB3⟩ := hrel
  by_cases c : (n : Int) < 16
  ·have cb : decide ((n : Int) < 16) = true := decide_eq_true c
   go_wp2
   refine start_ (n := 10) (S := fun _ => True) (ds := []) #[false, false, false, false, false, false, false, false, false, false] (by kernel_rfl) rfl rfl trivial (fun hHeld => ?_)
   have H4 := vA (show wr.drew.heap[g]? = some (.cells (slices_Repeat_bool_bool.tf 16 n R).toArray 4 (0, 0)) from H3.out)
   have HB4 := vA (below_drew HB3.out); generalize wr.drew = wd at H4 HB4 ⊢; clear H3 HB3
   refine pure_ (i := 0) (N := some 38) (v := ?_) (a' := ?_) #[true, false, false, false, false, false, false, false, false, false] rfl rfl (by kernel_rfl) (fun _ _ _ h => h) (Or.inl ⟨by rfl, ?_⟩) ?_ ?_
   rotate_left
   ·intro w'
    go_simp
    with_reducible rfl
   rotate_left
   ·refine qp ?_
    rfl
   refine pure_ (i := 1) (N := some 39) (v := ?_) (a' := ?_) #[true, true, false, false, false, false, false, false, false, false] rfl rfl (by kernel_rfl) (fun _ _ _ h => h) (Or.inl ⟨by rfl, ?_⟩) ?_ ?_
   rotate_left
   ·intro w'
    go_simp
    with_reducible rfl
   rotate_left
   ·refine qp ?_
    rfl
   refine pure_ (i := 2) (N := some 40) (v := ?_) (a' := ?_) #[true, true, true, false, false, false, false, false, false, false] rfl rfl (by kernel_rfl) (fun _ _ _ h => h) (Or.inl ⟨by rfl, ?_⟩) ?_ ?_
   rotate_left
   ·intro w'
    go_simp
    with_reducible rfl
   rotate_left
   ·refine qp ?_
    rfl
   have hN := HN.out; have hM := HM.out
   refine pure_ (i := 3) (N := some 41) (v := Value.slice (some ⟨g, n, none⟩) (16 - n) (cap - n)) (a' := ?_) #[true, true, true, true, false, false, false, false, false, false] rfl rfl (by kernel_rfl) (fun _ _ _ h => h) (Or.inl ⟨by rfl, ?_⟩) ?_ ?_
   ·intro w'
    go_simp
    rw [if_pos (by omega), if_neg (by omega)]
   rotate_left
   ·refine qp ?_
    rfl
   refine pure_ (i := 4) (N := some 42) (v := ?_) (a' := ?_) #[true, true, true, true, true, false, false, false, false, false] rfl rfl (by kernel_rfl) (fun _ _ _ h => h) (Or.inl ⟨by rfl, ?_⟩) ?_ ?_
   rotate_left
   ·intro w'
    go_simp
    with_reducible rfl
   rotate_left
   ·refine qp ?_
    rfl
   refine pure_ (i := 5) (N := some 43) (v := ?_) (a' := ?_) #[true, true, true, true, true, true, false, false, false, false] rfl rfl (by kernel_rfl) (fun _ _ _ h => h) (Or.inl ⟨by rfl, ?_⟩) ?_ ?_
   rotate_left
   ·intro w'
    go_simp
    with_reducible rfl
   rotate_left
   ·refine qp ?_
    rfl
   refine pure_ (i := 6) (N := some 44) (v := Value.slice (some ⟨g, 0, none⟩) n cap) (a' := ?_) #[true, true, true, true, true, true, true, false, false, false] rfl rfl (by kernel_rfl) (fun _ _ _ h => h) (Or.inl ⟨by rfl, ?_⟩) ?_ ?_
   ·intro w'
    go_simp
    intro h_
    omega
   rotate_left
   ·refine qp ?_
    rfl
   obtain ⟨c, hc⟩ : ∃ c, c = Nat.min n (16 - n) := ⟨_, rfl⟩
   have hc1 : 1 ≤ c ∧ c ≤ n ∧ n + c ≤ 16 := by rw [hc]; simp only [Nat.min_def]; split <;> omega
   refine one_ (i := 7) (N := some 45) #[true, true, true, true, true, true, true, true, false, false] rfl rfl (by kernel_rfl) (by decide) (fun K hK => ?_)
   refine step_copy_splice rfl (.tmp 41) (.tmp 44) 22 22 rfl 4 Try.underlying22 (by kernel_rfl) (some ⟨g, n, none⟩) (some ⟨g, 0, none⟩) (16 - n) (cap - n) n cap rfl rfl g n (slices_Repeat_bool_bool.tf 16 n R) 4 H4.out (List.replicate c (Value.bool true)) (by rw [List.length_replicate]; exact hc) (fun _ => ⟨rfl, ⟨g, 0, none⟩, rfl, slices_Repeat_bool_bool.tf_cell H4.out hc1.2.1⟩) (by simp [slices_Repeat_bool_bool.tf]; omega) (by intro v hv; rw [List.eq_of_mem_replicate hv]; rfl) w.heap.size w HB4.out HG.out ?_
   intro w5 h5 hb5; rw [List.length_replicate]; clear hc
   refine hK.out _ _ trivial (fun hHeld => ?_)
   clear hK K; refine norm_ (a' := ?_) ?_ ?_; rotate_left
   ·show Act.put _ (some 45) _ = _
    refine qp ?_
    rfl
   have H5 := Aside0.mk (show w5.heap[g]? = some (.cells (slices_Repeat_bool_bool.tf 16 (n + c) R).toArray 4 (0, 0)) from by
    rw [← slices_Repeat_bool_bool.tf_splice 16 n c R hc1.2.2]; exact h5)
   have HB5 := vA hb5; clear h5 hb5 H4 HB4
   refine pure_ (i := 8) (N := some 46) (v := Value.int .i64 ((n + c : Nat) : Int)) (a' := ?_) #[true, true, true, true, true, true, true, true, true, false] rfl rfl (by kernel_rfl) (fun _ _ _ h => h) (Or.inl ⟨by rfl, ?_⟩) ?_ ?_
   ·intro w'
    go_simp
    rw [IntKind.wrap_i64]
    omega
   rotate_left
   ·refine qp ?_
    rfl
   refine pure_ (i := 9) (N := some 8) (v := ?_) (a' := ?_) #[true, true, true, true, true, true, true, true, true, true] rfl rfl (by kernel_rfl) (fun _ _ _ h => h) (Or.inl ⟨by rfl, ?_⟩) ?_ ?_
   rotate_left
   ·intro w'
    go_simp
    with_reducible rfl
   rotate_left
   ·refine qp ?_
    rfl
   refine done_ (by kernel_rfl) ?_
   try go_wp2
   go_roundg (gk - 1)
   case measure => omega
   case rel => exact ⟨n + c, rfl, ⟨by omega⟩, H5, HB5⟩
  ·have cb : decide ((n : Int) < 16) = false := decide_eq_false c
   obtain rfl : n = 16 := by have := HN.out; omega
   go_wp2
   go_ret
   refine ⟨_, rfl, Kd.R_of_own ⟨rfl, .inr ⟨g, cap, _, rfl, HG.out, H3.out, HM.out.1, HM.out.2, ?_, ?_⟩⟩ (fun _ _ => trivial), HB3.out⟩
   ·have := HS.out
    simp [slices_Repeat_bool_bool.tf]
    omega
   ·simp [slices_Repeat_bool_bool.tf, encs]
set_option maxHeartbeats 4000000 in
set_option maxRecDepth 100000 in
theorem slices_Repeat_bool_bool.calls8 (ad : Addr) (c0 : Nat) (w : World) (hcell : w.cell? ad = some (.bool true)) :
  Calls Try.prog 82 #[.slice (some ad) 1 c0, .int .i64 8] w fun e w' => ∃ v0_ : Value, e = .returned v0_ ∧ Kd.R Kd.bool 4 w' w.heap.size (fun _ => True) v0_ (List.replicate 8 true) ∧ Below w.heap.size w w' := by
 have HC := vA hcell
 clear hcell
 go_enter Try.func82, Try.ntmps82
 go_wp2_with (go_at_call 9)
 refine (bits_Mul.calls 1 8 0 8 _ (by decide)).mono ?_
 rintro e w1 ⟨rfl, m1, rfl⟩
 have HB := vA (pw_below_drewN (Below.refl w.heap.size w) m1)
 have HC := vA (show (w.drewN m1).cell? ad = some (.bool true) from HC.out)
 generalize w.drewN m1 = w1 at HB HC ⊢
 go_wp2_with ((with_reducible refine gate_dst (N := 30) rfl ?_); refine Kd.R_make Kd.bool _ 4 rfl (N := 30) rfl 22 _ _ rfl (8 : Int) rfl rfl Try.underlying22 (.bool false) 1 info4 rfl (by decide) (by omega) false (ok := fun _ => True) (okp := fun _ => True) rfl (fun _ hk => hk) trivial (by decide) (by decide) (Below.refl _ _) (Nat.le_refl _) ?_)
 intro v1 w2 ho hb2 _ _ _ _
 have ho : Kd.R Kd.bool 4 w2 w1.heap.size (fun _ => True) v1 (List.replicate 8 false) := ho
 obtain ⟨hl, h1 | ⟨g, cap, cur, ev, hge, hcells, h16, hmax, hsz, htk⟩⟩ := Kd.own_of_R ho
 ·exact absurd h1.2 (by decide)
 rw [List.length_replicate] at ev h16
 subst ev
 have HC := vA (pw_cell_below hb2 HC.out)
 have HG := vA (Nat.le_trans HB.out.size hge)
 have HB := vA (below_step HB.out hb2)
 obtain ⟨R, hR⟩ : ∃ R, cur = (slices_Repeat_bool_bool.tf 8 0 R).toArray := ⟨cur.toList.drop 8, by
  apply Array.toList_inj.1
  rw [← List.take_append_drop 8 cur.toList]; have e : cur.toList.take 8 = List.replicate 8 (Value.bool false) := htk; rw [e]
  simp [slices_Repeat_bool_bool.tf]⟩
 subst hR
 have HS := vA (show 8 + R.length = cap by have h := hsz; simp [slices_Repeat_bool_bool.tf] at h; omega)
 have HM := vA (And.intro h16 hmax)
 have HH := vA hcells
 clear ho hb2 hl hge hcells h16 hmax hsz htk
 go_wp2_with ((with_reducible refine gate_dst (N := 33) rfl ?_); revert HH)
 intro HH
 refine wpList_copy_splice rfl (.tmp 31) (.tmp 32) 22 22 rfl 4 Try.underlying22 (by kernel_rfl) (some ⟨g, 0, none⟩) (some ad) 8 cap 1 c0 rfl rfl g 0 (slices_Repeat_bool_bool.tf 8 0 R) 4 HH.out [Value.bool true] rfl (fun _ => ⟨rfl, ad, rfl, ?csrc⟩) (by simp [slices_Repeat_bool_bool.tf] <;> omega) (by intro v hv; rw [List.mem_singleton.1 hv]; rfl) w.heap.size w HB.out HG.out ?_
 case csrc => intro j v hj; cases j with | zero => (have e := Option.some.inj hj; subst e; exact HC.out) | succ j => simp at hj
 intro w3 h3 hb3
 have H3 := Aside0.mk (show w3.heap[g]? = some (.cells (slices_Repeat_bool_bool.tf 8 1 R).toArray 4 (0, 0)) from by
  have e := slices_Repeat_bool_bool.tf_splice 8 0 1 R (by decide)
  rw [Nat.zero_add] at e; rw [← e]; exact h3)
 have HB3 := vA hb3
 clear h3 hb3 HH HB HC ho
 go_wp2
 go_loopg [8] 8 (fun kq v8 w' => ∃ n : Nat, v8 = .int .i64 (n : Int) ∧ Aside0 (1 ≤ n ∧ n ≤ 8 ∧ 8 ≤ n + kq) ∧ Aside0 (w'.heap[g]? = some (.cells (slices_Repeat_bool_bool.tf 8 n R).toArray 4 (0, 0))) ∧ Aside0 (Below w.heap.size w w'))
 case atStart => exact ⟨1, rfl, ⟨by decide⟩, H3, HB3⟩
 case round =>
  clear H3 HB3; obtain ⟨n, rfl, HN, H3, HB3⟩ := hrel
  by_cases c : (n : Int) < 8
  ·have cb : decide ((n : Int) < 8) = true := decide_eq_true c
   go_wp2
   refine start_ (n := 10) (S := fun _ => True) (ds := []) #[false, false, false, false, false, false, false, false, false, false] (by kernel_rfl) rfl rfl trivial (fun hHeld => ?_)
   have H4 := vA (show wr.drew.heap[g]? = some (.cells (slices_Repeat_bool_bool.tf 8 n R).toArray 4 (0, 0)) from H3.out)
   have HB4 := vA (below_drew HB3.out); generalize wr.drew = wd at H4 HB4 ⊢; clear H3 HB3
   refine pure_ (i := 0) (N := some 38) (v := ?_) (a' := ?_) #[true, false, false, false, false, false, false, false, false, false] rfl rfl (by kernel_rfl) (fun _ _ _ h => h) (Or.inl ⟨by rfl, ?_⟩) ?_ ?_
   rotate_left
   ·intro w'
    go_simp
    with_reducible rfl
   rotate_left
   ·refine qp ?_
    rfl
   refine pure_ (i := 1) (N := some 39) (v := ?_) (a' := ?_) #[true, true, false, false, false, false, false, false, false, false] rfl rfl (by kernel_rfl) (fun _ _ _ h => h) (Or.inl ⟨by rfl, ?_⟩) ?_ ?_
   rotate_left
   ·intro w'
    go_simp
    with_reducible rfl
   rotate_left
   ·refine qp ?_
    rfl
   refine pure_ (i := 2) (N := some 40) (v := ?_) (a' := ?_) #[true, true, true, false, false, false, false, false, false, false] rfl rfl (by kernel_rfl) (fun _ _ _ h => h) (Or.inl ⟨by rfl, ?_⟩) ?_ ?_
   rotate_left
   ·intro w'
    go_simp
    with_reducible rfl
   rotate_left
   ·refine qp ?_
    rfl
   have hN := HN.out; have hM := HM.out
   refine pure_ (i := 3) (N := some 41) (v := Value.slice (some ⟨g, n, none⟩) (8 - n) (cap - n)) (a' := ?_) #[true, true, true, true, false, false, false, false, false, false] rfl rfl (by kernel_rfl) (fun _ _ _ h => h) (Or.inl ⟨by rfl, ?_⟩) ?_ ?_
   ·intro w'
    go_simp
    rw [if_pos (by omega), if_neg (by omega)]
   rotate_left
   ·refine qp ?_
    rfl
   refine pure_ (i := 4) (N := some 42) (v := ?_) (a' := ?_) #[true, true, true, true, true, false, false, false, false, false] rfl rfl (by kernel_rfl) (fun _ _ _ h => h) (Or.inl ⟨by rfl, ?_⟩) ?_ ?_
   rotate_left
   ·intro w'
    go_simp
    with_reducible rfl
   rotate_left
   ·refine qp ?_
    rfl
   refine pure_ (i := 5) (N := some 43) (v := ?_) (a' := ?_) #[true, true, true, true, true, true, false, false, false, false] rfl rfl (by kernel_rfl) (fun _ _ _ h => h) (Or.inl ⟨by rfl, ?_⟩) ?_ ?_
   rotate_left
   ·intro w'
    go_simp
    with_reducible rfl
   rotate_left
   ·refine qp ?_
    rfl
   refine pure_ (i := 6) (N := some 44) (v := Value.slice (some ⟨g, 0, none⟩) n cap) (a' := ?_) #[true, true, true, true, true, true, true, false, false, false] rfl rfl (by kernel_rfl) (fun _ _ _ h => h) (Or.inl ⟨by rfl, ?_⟩) ?_ ?_
   ·intro w'
    go_simp
    intro h_
    omega
   rotate_left
   ·refine qp ?_
    rfl
   obtain ⟨c, hc⟩ : ∃ c, c = Nat.min n (8 - n) := ⟨_, rfl⟩
   have hc1 : 1 ≤ c ∧ c ≤ n ∧ n + c ≤ 8 := by rw [hc]; simp only [Nat.min_def]; split <;> omega
   refine one_ (i := 7) (N := some 45) #[true, true, true, true, true, true, true, true, false, false] rfl rfl (by kernel_rfl) (by decide) (fun K hK => ?_)
   refine step_copy_splice rfl (.tmp 41) (.tmp 44) 22 22 rfl 4 Try.underlying22 (by kernel_rfl) (some ⟨g, n, none⟩) (some ⟨g, 0, none⟩) (8 - n) (cap - n) n cap rfl rfl g n (slices_Repeat_bool_bool.tf 8 n R) 4 H4.out (List.replicate c (Value.bool true)) (by rw [List.length_replicate]; exact hc) (fun _ => ⟨rfl, ⟨g, 0, none⟩, rfl, slices_Repeat_bool_bool.tf_cell H4.out hc1.2.1⟩) (by simp [slices_Repeat_bool_bool.tf]; omega) (by intro v hv; rw [List.eq_of_mem_replicate hv]; rfl) w.heap.size w HB4.out HG.out ?_
   intro w5 h5 hb5; rw [List.length_replicate]; clear hc
   refine hK.out _ _ trivial (fun hHeld => ?_)
   clear hK K; refine norm_ (a' := ?_) ?_ ?_; rotate_left
   ·show Act.put _ (some 45) _ = _
    refine qp ?_
    rfl
   have H5 := Aside0.mk (show w5.heap[g]? = some (.cells (slices_Repeat_bool_bool.tf 8 (n + c) R).toArray 4 (0, 0)) from by
    rw [← slices_Repeat_bool_bool.tf_splice 8 n c R hc1.2.2]; exact h5)
   have HB5 := vA hb5; clear h5 hb5 H4 HB4
   refine pure_ (i := 8) (N := some 46) (v := Value.int .i64 ((n + c : Nat) : Int)) (a' := ?_) #[true, true, true, true, true, true, true, true, true, false] rfl rfl (by kernel_rfl) (fun _ _ _ h => h) (Or.inl ⟨by rfl, ?_⟩) ?_ ?_
   ·intro w'
    go_simp
    rw [IntKind.wrap_i64]
    omega
   rotate_left
   ·refine qp ?_
    rfl
   refine pure_ (i := 9) (N := some 8) (v := ?_) (a' := ?_) #[true, true, true, true, true, true, true, true, true, true] rfl rfl (by kernel_rfl) (fun _ _ _ h => h) (Or.inl ⟨by rfl, ?_⟩) ?_ ?_
   rotate_left
   ·intro w'
    go_simp
    with_reducible rfl
   rotate_left
   ·refine qp ?_
    rfl
   refine done_ (by kernel_rfl) ?_
   try go_wp2
   go_roundg (gk - 1)
   case measure => omega
   case rel => exact ⟨n + c, rfl, ⟨by omega⟩, H5, HB5⟩
  ·have cb : decide ((n : Int) < 8) = false := decide_eq_false c
   obtain rfl : n = 8 := by have := HN.out; omega
   go_wp2
   go_ret
   refine ⟨_, rfl, Kd.R_of_own ⟨rfl, .inr ⟨g, cap, _, rfl, HG.out, H3.out, HM.out.1, HM.out.2, ?_, ?_⟩⟩ (fun _ _ => trivial), HB3.out⟩
   ·have := HS.out
    simp [slices_Repeat_bool_bool.tf]
    omega
   ·simp [slices_Repeat_bool_bool.tf, encs]
theorem slices_Repeat_bool_bool.calls (A0 : Option Addr) (c0 : Nat) (l0 : List Bool) (a1 : Int) (r : List Bool) (w : World) (hr0 : Kd.C Kd.bool w A0 l0.length l0) (hc0 : l0.length ≤ c0) (h : slices_Repeat_bool_bool.f l0 a1 = some r) :
  Calls Try.prog 82 #[.slice A0 l0.length c0, .int .i64 a1] w fun e w' => ∃ v0_ : Value, e = .returned v0_ ∧ Kd.R Kd.bool 4 w' w.heap.size (fun _ => True) v0_ r ∧ Below w.heap.size w w' := by
 unfold slices_Repeat_bool_bool.f at h
 by_cases hp : l0 = [true] ∧ (a1 = 16 ∨ a1 = 8)
 ·rw [if_pos hp] at h
  obtain rfl := Option.some.inj h; obtain ⟨rfl, ha⟩ := hp
  obtain ⟨ad, cs, rfl, _, hK, hcell⟩ := Kd.C_get hr0 true 0 (by decide) (by decide)
  have hv := hcell 0 (.bool true) (by rw [show cs = [.bool true] from hK]; rfl)
  have hv : w.cell? ad = some (.bool true) := by simpa [Addr.add] using hv
  rcases ha with rfl | rfl
  ·exact slices_Repeat_bool_bool.calls16 ad c0 w hv
  ·exact slices_Repeat_bool_bool.calls8 ad c0 w hv
 ·rw [if_neg hp] at h
  exact absurd h (by simp)

-- NOT PRINTED: function 26 (impl_DiskOf)

/-! ### laws_heldBoolS: function 139 -/
def laws_heldBoolS.l0 : Nat → List Bool → Int → Int → Option (Int)
 | 0, _, _, _ => none
 | k + 1, x0, x1, x5 => if x5 < (x0.length : Int) then (if 0 ≤ x5 then (if ((rdOf false x0 x5) != ((Int.tmod x1 3) == 0)) = true then (some (-1)) else (laws_heldBoolS.l0 k x0 (wrap64 (x1 + 1)) (wrap64 (x5 + 1)))) else (none)) else (some x1)
def laws_heldBoolS.f (k : Nat) (l0 : List Bool) (a1 : Int) : Option (Int) := laws_heldBoolS.l0 k l0 a1 0
set_option maxHeartbeats 8000000 in
set_option maxRecDepth 100000 in
theorem laws_heldBoolS.calls (k : Nat) (A0 : Option Addr) (c0 : Nat) (l0 : List Bool) (a1 : Int) (r : Int) (w : World) (hr0 : Kd.C Kd.bool w A0 l0.length l0) (hc0 : l0.length ≤ c0) (h : laws_heldBoolS.f k l0 a1 = some r) :
  Calls Try.prog 139 #[.slice A0 l0.length c0, .int .i64 a1] w fun e w' => e = .returned (.int .i64 r) ∧ Drawn0 w w' := by
 have HR0 := vA hr0
 have HC0 := vA hc0
 clear hr0 hc0
 have H : (laws_heldBoolS.l0 k l0 a1 0) = some r := h
 clear h
 have H' := vA H
 clear H
 go_enter Try.func139, Try.ntmps139
 go_wp2
 go_loopg [1, 5] k (fun kq v1 v5 w' => ∃ (x1_1 : Int) (x5_1 : Int), v1 = .int .i64 x1_1 ∧ v5 = .int .i64 x5_1 ∧ Aside0 (laws_heldBoolS.l0 kq l0 x1_1 x5_1 = some r) ∧ Aside0 (kq ≤ k) ∧ Drawn0 w w')
 case atStart => exact ⟨(a1), (0), qz, qz, H', ⟨Nat.le_refl _⟩, qd⟩
 case round =>
  clear H'
  (try clear c1); (try clear p2)
  obtain ⟨x1_1, x5_1, rfl, rfl, HA, HK1, ⟨m1, rfl⟩⟩ := hrel
  cases gk with
  | zero => exact absurd HA.out (by simp [laws_heldBoolS.l0])
  | succ k1 =>
   have H := HA.out; clear HA
   simp only [laws_heldBoolS.l0] at H
   by_cases c3 : x5_1 < (l0.length : Int)
   ·rw [if_pos c3] at H
    have c3b0 : decide (x5_1 < (l0.length : Int)) = true := decide_eq_true c3; clear c3
    by_cases c4 : 0 ≤ x5_1
    ·rw [if_pos c4] at H
     have c4b0 : decide (0 ≤ x5_1) = true := decide_eq_true c4; clear c4
     by_cases c5 : ((rdOf false l0 x5_1) != ((Int.tmod x1_1 3) == 0)) = true
     ·rw [if_pos c5] at H
      have c5b0 : ((rdOf false l0 x5_1) != ((Int.tmod x1_1 3) == 0)) = true := c5
      (try (have c5b1 : decide ((rdOf false l0 x5_1) = ((Int.tmod x1_1 3) == 0)) = false := by simpa using c5))
      (try (have c5b2 : ((rdOf false l0 x5_1) == ((Int.tmod x1_1 3) == 0)) = false := by simpa using c5))
      (try (have c5b3 : ¬ ((rdOf false l0 x5_1) = ((Int.tmod x1_1 3) == 0)) := by simpa using c5))
      clear c5; obtain rfl := Option.some.inj H; have p415 : 0 ≤ (x5_1 : Int) := qo; have q415 : x5_1 < (l0.length : Int) := qo; obtain ⟨ad415, e415, hx415_0⟩ := Kd.at_bool HR0.out x5_1 p415 q415
      cases e415
      replace p415 := eq_true p415; replace q415 := eq_true q415
      go_wp2
      go_ret
      exact ⟨qz, qd⟩
     ·rw [if_neg c5] at H
      have c5b0 : ((rdOf false l0 x5_1) != ((Int.tmod x1_1 3) == 0)) = false := by simpa using c5
      (try (have c5b1 : decide ((rdOf false l0 x5_1) = ((Int.tmod x1_1 3) == 0)) = true := by simpa using c5))
      (try (have c5b2 : ((rdOf false l0 x5_1) == ((Int.tmod x1_1 3) == 0)) = true := by simpa using c5))
      clear c5; have H' := vA H; clear H; have p415 : 0 ≤ (x5_1 : Int) := qo; have q415 : x5_1 < (l0.length : Int) := qo; obtain ⟨ad415, e415, hx415_0⟩ := Kd.at_bool HR0.out x5_1 p415 q415
      cases e415
      replace p415 := eq_true p415; replace q415 := eq_true q415
      go_wp2
      go_roundg k1
      case measure => have := HK1.out; omega
      case rel => exact ⟨(wrap64 (x1_1 + 1)), (wrap64 (x5_1 + 1)), qz, qz, H', ⟨by have := HK1.out; omega⟩, qd⟩
    ·rw [if_neg c4] at H
     exact absurd H (by simp)
   ·rw [if_neg c3] at H
    have c3b0 : decide (x5_1 < (l0.length : Int)) = false := decide_eq_false c3; clear c3; obtain rfl := Option.some.inj H
    go_wp2
    go_ret
    exact ⟨qz, qd⟩

/-! ### laws_heldBits: function 85 -/
def laws_heldBits.f (k : Nat) (l0_0 : List Bool) (l0_1 : List Bool) (a1 : Int) : Option (Int) := (laws_heldBoolS.f k l0_0 a1).bind fun t417 => (if t417 < 0 then (some (-1)) else ((laws_heldBoolS.f k l0_1 t417).bind fun t418 => (if t418 < 0 then (some (-1)) else (some t418))))
set_option maxHeartbeats 8000000 in
set_option maxRecDepth 100000 in
theorem laws_heldBits.calls (k : Nat) (A0_0 : Option Addr) (c0_0 : Nat) (l0_0 : List Bool) (A0_1 : Option Addr) (c0_1 : Nat) (l0_1 : List Bool) (a1 : Int) (r : Int) (w : World) (hr0_0 : Kd.C Kd.bool w A0_0 l0_0.length l0_0) (hc0_0 : l0_0.length ≤ c0_0) (hr0_1 : Kd.C Kd.bool w A0_1 l0_1.length l0_1) (hc0_1 : l0_1.length ≤ c0_1) (h : laws_heldBits.f k l0_0 l0_1 a1 = some r) :
  Calls Try.prog 85 #[.agg #[.slice A0_0 l0_0.length c0_0, .slice A0_1 l0_1.length c0_1], .int .i64 a1] w fun e w' => e = .returned (.int .i64 r) ∧ Below w.heap.size w w' := by
 have hu35 := Try.underlying35
 have HR0_0 := vA hr0_0
 have HC0_0 := vA hc0_0
 clear hr0_0 hc0_0
 have HR0_1 := vA hr0_1
 have HC0_1 := vA hc0_1
 clear hr0_1 hc0_1
 have HB := vA (Below.refl w.heap.size w)
 have H : ((laws_heldBoolS.f k l0_0 a1).bind fun t417 => (if t417 < 0 then (some (-1)) else ((laws_heldBoolS.f k l0_1 t417).bind fun t418 => (if t418 < 0 then (some (-1)) else (some t418))))) = some r := h
 clear h
 replace H := Option.bind_eq_some_iff.mp H
 obtain ⟨t417, A30, H⟩ := H
 have A3 := vA A30
 clear A30
 go_enter Try.func85, Try.ntmps85
 go_wp2_with (first | ((with_reducible refine gate_dst (N := 2) rfl ?_); refine vx (N := 2) (cs := #[.slice A0_0 l0_0.length c0_0, .slice A0_1 l0_1.length c0_1]) (t := 35) ?_; intro gb416 hg w4 hbox hb; have BK416 := vA (hbox); have GW416 := vA ((vg hg (qb HB.out))); have GE416 := GW416; replace HB := vbs HB hb; clear hb hbox hg; obtain ⟨hcz5_0, hcz5_1⟩ := v2c BK416.out; obtain ⟨hfz5_0, hfz5_1⟩ := v2f BK416.out) | ((with_reducible refine gate_callee (f := 139) rfl ?_); refine goesL_ (some 8) rfl rfl Try.func139 (by kernel_rfl) rfl #[.slice A0_0 l0_0.length c0_0, .int .i64 a1] rfl qm ?_; (with_reducible refine (laws_heldBoolS.calls k _ _ l0_0 a1 t417 _ (vc HR0_0 HB) HC0_0.out A3.out).mono ?_)))
 first | rintro e w' rfl ⟨nd, rfl⟩ | rintro e w' ⟨rfl, ⟨nd, rfl⟩⟩
 refine ⟨_, rfl, ?_⟩
 by_cases c6 : t417 < 0
 ·rw [if_pos c6] at H
  have c6b0 : decide (t417 < 0) = true := decide_eq_true c6; clear c6; obtain rfl := Option.some.inj H
  go_wp2
  go_ret
  exact ⟨qe, qb1 HB.out GE416.out⟩
 ·rw [if_neg c6] at H
  have c6b0 : decide (t417 < 0) = false := decide_eq_false c6; clear c6; replace H := Option.bind_eq_some_iff.mp H; obtain ⟨t418, A70, H⟩ := H; have A7 := vA A70; clear A70; obtain ⟨hcz8_0, hcz8_1⟩ := v2c BK416.out; obtain ⟨hfz8_0, hfz8_1⟩ := v2f BK416.out
  go_wp2_with (first | ((with_reducible refine gate_callee (f := 139) rfl ?_); refine goesL_ (some 14) rfl rfl Try.func139 (by kernel_rfl) rfl #[.slice A0_1 l0_1.length c0_1, .int .i64 t417] rfl qm ?_; (with_reducible refine (laws_heldBoolS.calls k _ _ l0_1 t417 t418 _ (vc HR0_1 HB) HC0_1.out A7.out).mono ?_)))
  first | rintro e w' rfl ⟨nd, rfl⟩ | rintro e w' ⟨rfl, ⟨nd, rfl⟩⟩
  refine ⟨_, rfl, ?_⟩
  by_cases c9 : t418 < 0
  ·rw [if_pos c9] at H
   have c9b0 : decide (t418 < 0) = true := decide_eq_true c9; clear c9; obtain rfl := Option.some.inj H
   go_wp2
   go_ret
   exact ⟨qe, qb1 HB.out GE416.out⟩
  ·rw [if_neg c9] at H
   have c9b0 : decide (t418 < 0) = false := decide_eq_false c9; clear c9; obtain rfl := Option.some.inj H
   go_wp2
   go_ret
   exact ⟨qe, qb1 HB.out GE416.out⟩

/-! ### laws_heldIntS: function 140 -/
def laws_heldIntS.l0 : Nat → List Int → Int → Int → Option (Int)
 | 0, _, _, _ => none
 | k + 1, x0, x1, x5 => if x5 < (x0.length : Int) then (if 0 ≤ x5 then (if (rd x0 x5) = x1 then (laws_heldIntS.l0 k x0 (wrap64 (x1 + 1)) (wrap64 (x5 + 1))) else (some (-1))) else (none)) else (some x1)
def laws_heldIntS.f (k : Nat) (l0 : List Int) (a1 : Int) : Option (Int) := laws_heldIntS.l0 k l0 a1 0
set_option maxHeartbeats 8000000 in
set_option maxRecDepth 100000 in
theorem laws_heldIntS.calls (k : Nat) (A0 : Option Addr) (c0 : Nat) (l0 : List Int) (a1 : Int) (r : Int) (w : World) (hr0 : Kd.C (Kd.int .i64) w A0 l0.length l0) (hc0 : l0.length ≤ c0) (h : laws_heldIntS.f k l0 a1 = some r) :
  Calls Try.prog 140 #[.slice A0 l0.length c0, .int .i64 a1] w fun e w' => e = .returned (.int .i64 r) ∧ Drawn0 w w' := by
 have HR0 := vA hr0
 have HC0 := vA hc0
 clear hr0 hc0
 have H : (laws_heldIntS.l0 k l0 a1 0) = some r := h
 clear h
 have H' := vA H
 clear H
 go_enter Try.func140, Try.ntmps140
 go_wp2
 go_loopg [1, 5] k (fun kq v1 v5 w' => ∃ (x1_1 : Int) (x5_1 : Int), v1 = .int .i64 x1_1 ∧ v5 = .int .i64 x5_1 ∧ Aside0 (laws_heldIntS.l0 kq l0 x1_1 x5_1 = some r) ∧ Aside0 (kq ≤ k) ∧ Drawn0 w w')
 case atStart => exact ⟨(a1), (0), qz, qz, H', ⟨Nat.le_refl _⟩, qd⟩
 case round =>
  clear H'
  (try clear c1); (try clear p2)
  obtain ⟨x1_1, x5_1, rfl, rfl, HA, HK1, ⟨m1, rfl⟩⟩ := hrel
  cases gk with
  | zero => exact absurd HA.out (by simp [laws_heldIntS.l0])
  | succ k1 =>
   have H := HA.out; clear HA
   simp only [laws_heldIntS.l0] at H
   by_cases c3 : x5_1 < (l0.length : Int)
   ·rw [if_pos c3] at H
    have c3b0 : decide (x5_1 < (l0.length : Int)) = true := decide_eq_true c3; clear c3
    by_cases c4 : 0 ≤ x5_1
    ·rw [if_pos c4] at H
     have c4b0 : decide (0 ≤ x5_1) = true := decide_eq_true c4; clear c4
     by_cases c5 : (rd l0 x5_1) = x1_1
     ·rw [if_pos c5] at H
      have c5b0 : ((rd l0 x5_1) == x1_1) = true := beq_iff_eq.mpr c5; have c5b1 : ((rd l0 x5_1) != x1_1) = false := bne_eq_false_iff_eq.mpr c5; clear c5; have H' := vA H; clear H; have p419 : 0 ≤ (x5_1 : Int) := qo; have q419 : x5_1 < (l0.length : Int) := qo; obtain ⟨ad419, e419, hx419_0⟩ := Kd.at_int HR0.out x5_1 p419 q419
      cases e419
      replace p419 := eq_true p419; replace q419 := eq_true q419
      go_wp2
      go_roundg k1
      case measure => have := HK1.out; omega
      case rel => exact ⟨(wrap64 (x1_1 + 1)), (wrap64 (x5_1 + 1)), qz, qz, H', ⟨by have := HK1.out; omega⟩, qd⟩
     ·rw [if_neg c5] at H
      have c5b0 : ((rd l0 x5_1) == x1_1) = false := beq_eq_false_iff_ne.mpr c5; have c5b1 : ((rd l0 x5_1) != x1_1) = true := bne_iff_ne.mpr c5; obtain rfl := Option.some.inj H; have p419 : 0 ≤ (x5_1 : Int) := qo; have q419 : x5_1 < (l0.length : Int) := qo; obtain ⟨ad419, e419, hx419_0⟩ := Kd.at_int HR0.out x5_1 p419 q419
      cases e419
      replace p419 := eq_true p419; replace q419 := eq_true q419
      go_wp2
      go_ret
      exact ⟨qz, qd⟩
    ·rw [if_neg c4] at H
     exact absurd H (by simp)
   ·rw [if_neg c3] at H
    have c3b0 : decide (x5_1 < (l0.length : Int)) = false := decide_eq_false c3; clear c3; obtain rfl := Option.some.inj H
    go_wp2
    go_ret
    exact ⟨qz, qd⟩

/-! ### laws_heldInodeS: function 86 -/
def laws_heldInodeS.l0 : Nat → List (S105) → Int → Int → Option (Int)
 | 0, _, _, _ => none
 | k + 1, x0, x1, x5 => if x5 < (x0.length : Int) then (if 0 ≤ x5 then (if ((rd_T105 x0 x5).f0) = x1 then (if ((rd_T105 x0 x5).f1) = (wrap64 (x1 + 1)) then ((laws_heldIntS.f k ((rd_T105 x0 x5).f2) (wrap64 ((wrap64 (x1 + 1)) + 1))).bind fun t423 => (if t423 < 0 then (some (-1)) else (laws_heldInodeS.l0 k x0 t423 (wrap64 (x5 + 1))))) else (some (-1))) else (some (-1))) else (none)) else (some x1)
def laws_heldInodeS.f (k : Nat) (l0 : List (S105)) (a1 : Int) : Option (Int) := laws_heldInodeS.l0 k l0 a1 0
set_option maxHeartbeats 8000000 in
set_option maxRecDepth 100000 in
theorem laws_heldInodeS.calls (k : Nat) (A0 : Option Addr) (c0 : Nat) (l0 : List (S105)) (a1 : Int) (r : Int) (w : World) (hr0 : Kd.C k105 w A0 l0.length l0) (hc0 : l0.length ≤ c0) (h : laws_heldInodeS.f k l0 a1 = some r) :
  Calls Try.prog 86 #[.slice A0 l0.length c0, .int .i64 a1] w fun e w' => e = .returned (.int .i64 r) ∧ Drawn0 w w' := by
 have HR0 := vA hr0
 have HC0 := vA hc0
 clear hr0 hc0
 have H : (laws_heldInodeS.l0 k l0 a1 0) = some r := h
 clear h
 have H' := vA H
 clear H
 go_enter Try.func86, Try.ntmps86
 go_wp2
 go_loopg [1, 5] k (fun kq v1 v5 w' => ∃ (x1_1 : Int) (x5_1 : Int), v1 = .int .i64 x1_1 ∧ v5 = .int .i64 x5_1 ∧ Aside0 (laws_heldInodeS.l0 kq l0 x1_1 x5_1 = some r) ∧ Aside0 (kq ≤ k) ∧ Drawn0 w w')
 case atStart => exact ⟨(a1), (0), qz, qz, H', ⟨Nat.le_refl _⟩, qd⟩
 case round =>
  clear H'
  (try clear p2)
  obtain ⟨x1_1, x5_1, rfl, rfl, HA, HK1, ⟨m1, rfl⟩⟩ := hrel
  cases gk with
  | zero => exact absurd HA.out (by simp [laws_heldInodeS.l0])
  | succ k1 =>
   have H := HA.out; clear HA
   simp only [laws_heldInodeS.l0] at H
   by_cases c3 : x5_1 < (l0.length : Int)
   ·rw [if_pos c3] at H
    have c3b0 : decide (x5_1 < (l0.length : Int)) = true := decide_eq_true c3; clear c3
    by_cases c4 : 0 ≤ x5_1
    ·rw [if_pos c4] at H
     have c4b0 : decide (0 ≤ x5_1) = true := decide_eq_true c4; clear c4
     by_cases c5 : ((rd_T105 l0 x5_1).f0) = x1_1
     ·rw [if_pos c5] at H
      have c5b0 : (((rd_T105 l0 x5_1).f0) == x1_1) = true := beq_iff_eq.mpr c5; have c5b1 : (((rd_T105 l0 x5_1).f0) != x1_1) = false := bne_eq_false_iff_eq.mpr c5; clear c5
      by_cases c6 : ((rd_T105 l0 x5_1).f1) = (wrap64 (x1_1 + 1))
      ·rw [if_pos c6] at H
       have c6b0 : (((rd_T105 l0 x5_1).f1) == (wrap64 (x1_1 + 1))) = true := beq_iff_eq.mpr c6; have c6b1 : (((rd_T105 l0 x5_1).f1) != (wrap64 (x1_1 + 1))) = false := bne_eq_false_iff_eq.mpr c6; clear c6; replace H := Option.bind_eq_some_iff.mp H; obtain ⟨t423, A70, H⟩ := H; have A7 := vA A70; clear A70; have p420 : 0 ≤ (x5_1 : Int) := qo; have q420 : x5_1 < (l0.length : Int) := qo; obtain ⟨ad420, A420_2, c420_2, e420, hx420_0, hx420_1, hx420_2, hl420_2, hi420_2⟩ := at_T105 HR0.out x5_1 p420 q420
       cases e420
       have HR420_2 := vA hi420_2; have HC420_2 := vA hl420_2; clear hi420_2 hl420_2; replace p420 := eq_true p420; replace q420 := eq_true q420; have p421 : 0 ≤ (x5_1 : Int) := qo; have q421 : x5_1 < (l0.length : Int) := qo; obtain ⟨ad421, A421_2, c421_2, e421, hx421_0, hx421_1, hx421_2, hl421_2, hi421_2⟩ := at_T105 HR0.out x5_1 p421 q421
       obtain rfl : ad420 = ad421 := (by injection e421)
       have HR421_2 := vA hi421_2; have HC421_2 := vA hl421_2; clear hi421_2 hl421_2; replace p421 := eq_true p421; replace q421 := eq_true q421; have ea_ := Option.some.inj (hx420_2.symm.trans hx421_2); injection ea_ with ea_ en_ ec_; subst ea_; subst ec_; clear en_; have p422 : 0 ≤ (x5_1 : Int) := qo; have q422 : x5_1 < (l0.length : Int) := qo; obtain ⟨ad422, A422_2, c422_2, e422, hx422_0, hx422_1, hx422_2, hl422_2, hi422_2⟩ := at_T105 HR0.out x5_1 p422 q422
       obtain rfl : ad420 = ad422 := (by injection e422)
       have HR422_2 := vA hi422_2; have HC422_2 := vA hl422_2; clear hi422_2 hl422_2; replace p422 := eq_true p422; replace q422 := eq_true q422; have ea_ := Option.some.inj (hx420_2.symm.trans hx422_2); injection ea_ with ea_ en_ ec_; subst ea_; subst ec_; clear en_
       go_wp2_with (first | ((with_reducible refine gate_callee (f := 140) rfl ?_); refine goesL_ (some 36) rfl rfl Try.func140 (by kernel_rfl) rfl #[.slice A420_2 ((rd_T105 l0 x5_1).f2).length c420_2, .int .i64 (wrap64 ((wrap64 (x1_1 + 1)) + 1))] rfl qm ?_; (with_reducible refine (laws_heldIntS.calls k1 _ _ ((rd_T105 l0 x5_1).f2) (wrap64 ((wrap64 (x1_1 + 1)) + 1)) t423 _ (vd HR422_2.out) HC422_2.out A7.out).mono ?_)))
       first | rintro e w' rfl ⟨nd, rfl⟩ | rintro e w' ⟨rfl, ⟨nd, rfl⟩⟩
       refine ⟨_, rfl, ?_⟩
       by_cases c8 : t423 < 0
       ·rw [if_pos c8] at H
        have c8b0 : decide (t423 < 0) = true := decide_eq_true c8; clear c8; obtain rfl := Option.some.inj H
        go_wp2
        go_ret
        exact ⟨qz, qd⟩
       ·rw [if_neg c8] at H
        have c8b0 : decide (t423 < 0) = false := decide_eq_false c8; clear c8; have H' := vA H; clear H
        go_wp2
        go_roundg k1
        case measure => have := HK1.out; omega
        case rel => exact ⟨(t423), (wrap64 (x5_1 + 1)), qz, qz, H', ⟨by have := HK1.out; omega⟩, qd⟩
      ·rw [if_neg c6] at H
       have c6b0 : (((rd_T105 l0 x5_1).f1) == (wrap64 (x1_1 + 1))) = false := beq_eq_false_iff_ne.mpr c6; have c6b1 : (((rd_T105 l0 x5_1).f1) != (wrap64 (x1_1 + 1))) = true := bne_iff_ne.mpr c6; obtain rfl := Option.some.inj H; have p420 : 0 ≤ (x5_1 : Int) := qo; have q420 : x5_1 < (l0.length : Int) := qo; obtain ⟨ad420, A420_2, c420_2, e420, hx420_0, hx420_1, hx420_2, hl420_2, hi420_2⟩ := at_T105 HR0.out x5_1 p420 q420
       cases e420
       have HR420_2 := vA hi420_2; have HC420_2 := vA hl420_2; clear hi420_2 hl420_2; replace p420 := eq_true p420; replace q420 := eq_true q420; have p421 : 0 ≤ (x5_1 : Int) := qo; have q421 : x5_1 < (l0.length : Int) := qo; obtain ⟨ad421, A421_2, c421_2, e421, hx421_0, hx421_1, hx421_2, hl421_2, hi421_2⟩ := at_T105 HR0.out x5_1 p421 q421
       obtain rfl : ad420 = ad421 := (by injection e421)
       have HR421_2 := vA hi421_2; have HC421_2 := vA hl421_2; clear hi421_2 hl421_2; replace p421 := eq_true p421; replace q421 := eq_true q421; have ea_ := Option.some.inj (hx420_2.symm.trans hx421_2); injection ea_ with ea_ en_ ec_; subst ea_; subst ec_; clear en_
       go_wp2
       go_ret
       exact ⟨qz, qd⟩
     ·rw [if_neg c5] at H
      have c5b0 : (((rd_T105 l0 x5_1).f0) == x1_1) = false := beq_eq_false_iff_ne.mpr c5; have c5b1 : (((rd_T105 l0 x5_1).f0) != x1_1) = true := bne_iff_ne.mpr c5; obtain rfl := Option.some.inj H; have p420 : 0 ≤ (x5_1 : Int) := qo; have q420 : x5_1 < (l0.length : Int) := qo; obtain ⟨ad420, A420_2, c420_2, e420, hx420_0, hx420_1, hx420_2, hl420_2, hi420_2⟩ := at_T105 HR0.out x5_1 p420 q420
      cases e420
      have HR420_2 := vA hi420_2; have HC420_2 := vA hl420_2; clear hi420_2 hl420_2; replace p420 := eq_true p420; replace q420 := eq_true q420
      go_wp2
      go_ret
      exact ⟨qz, qd⟩
    ·rw [if_neg c4] at H
     exact absurd H (by simp)
   ·rw [if_neg c3] at H
    have c3b0 : decide (x5_1 < (l0.length : Int)) = false := decide_eq_false c3; clear c3; obtain rfl := Option.some.inj H
    go_wp2
    go_ret
    exact ⟨qz, qd⟩

end Go.Proofs.Ytdnbpapolckklaa.PFnExactDiskOf
