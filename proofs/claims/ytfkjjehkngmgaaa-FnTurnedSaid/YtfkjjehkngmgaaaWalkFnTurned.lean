/- FnTurned: the law's walk, by hand: it stores into the row that a text's conversion to bytes makes. -/
import Derived.Test.YtfkjjehkngmgaaaPFnTurnedx
import Derived.Test.YtfkjjehkngmgaaaAid
import Derived.Test.YtfkjjehkngmgaaaPureFnTurned
namespace Go.Proofs.Ytfkjjehkngmgaaa.fnTurned
open Go Go.RowKit Go.Proofs.YtfkjjehkngmgaaaW.PrintWords Go.Proofs.YtfkjjehkngmgaaaW.PrintLast Go.Proofs.YtfkjjehkngmgaaaW.PrintMore Go.Proofs.Ytfkjjehkngmgaaa.PFnTurned
set_option linter.unusedSimpArgs false
set_option linter.unusedVariables false
theorem reads_set {W : World} {g n : Nat} {xs : List Int} (h : ReadsInt W .u8 (some ⟨g, 0, none⟩) n xs) (i : Nat) (x : Int) : ReadsInt (W.setCell ⟨g, i, none⟩ (.int .u8 x)) .u8 (some ⟨g, 0, none⟩) n (xs.set i x) := by
  obtain ⟨h1, h2, h3⟩ := h
  refine ⟨by rw [List.length_set]; exact h1, h2, fun hn => ⟨_, rfl, fun j hj => ?_⟩⟩
  obtain ⟨ad, e, hc⟩ := h3 hn
  injection e with e
  subst e
  have hj' := hc j hj
  rw [add_plain] at hj' ⊢
  unfold World.cell? at hj' ⊢
  simp only [World.setCell, Array.getElem?_modify, if_true] at hj' ⊢
  cases hb : W.heap[g]? with
  | none => rw [hb] at hj'; cases hj'
  | some o =>
    rw [hb] at hj'
    cases o with
    | cells cs t f =>
      simp only [Option.map_some, Option.isSome_none, Bool.false_eq_true, if_false, Array.getElem?_setIfInBounds] at hj' ⊢
      by_cases e : i = j
      · subst e
        have hlt : i < cs.size := by
          rcases Nat.lt_or_ge i cs.size with q | q
          · exact q
          · rw [Array.getElem?_eq_none q] at hj'; cases hj'
        simp [hlt, List.getD_eq_getElem?_getD, h1 ▸ hj, List.getElem?_set, show i < xs.length by omega]
      · rw [if_neg e, hj']
        simp [List.getD_eq_getElem?_getD, List.getElem?_set, e]
    | _ => cases hj'
set_option maxHeartbeats 1600000 in
set_option maxRecDepth 100000 in
theorem walk (k : Nat) (A0 : Option Addr) (c0 : Nat) (l0 : List Int) (s t q : ByteArray) (p : List Int) (w : World) (hr0 : Kd.C (Kd.int .u8) w A0 l0.length l0) (hc0 : l0.length ≤ c0)
    (hbig : laws_big.f l0 = some false) (hs : spec_DrawSumOf.f k l0 = some s) (hp : spec_DrawPlaces.f k l0 = some p) (hp12 : p.length = 12) (hse : impl_Sealed.f k s = some (t, true)) (hu : impl_Unsealed.f k t = some (s, true))
    (ht : 0 < t.size) (htm : t.size ≤ 2000) (i : Nat) (hi : Int.tmod (rd p 0) (t.size : Int) = (i : Int)) (hit : i < t.size) (t' : ByteArray) (c d : Int) (hT : strOfNums ((bytesOf t).set i (Go.bits .xor .u8 ((t.data.toList.getD i 0).toNat : Int) (IntKind.u8.wrap (wrap64 (1 + (rd p 1).tmod 255))))) = t') (hW : impl_Unsealed.f k t' = some (q, false)) (hC : impl_SumOf.f k s = some c) (hD : impl_SumMore.f k c ⟨#[120]⟩ = some d) (hX : impl_SumOf.f k (s ++ ⟨#[120]⟩) = some d) (hsm : s.size ≤ 1000)
    (e1 : ((t.size : Int) != (s.size : Int) + 4) = false) :
    Calls Try.prog 7 #[.slice A0 l0.length c0] w fun e w' => e = .returned (.bool true) ∧ Below w.heap.size w w' := by
  have HR0 := Aside0.mk hr0
  have HC0 := Aside0.mk hc0
  have HG := Aside0.mk hbig
  have HS := Aside0.mk hs
  have HP := Aside0.mk hp
  have HE := Aside0.mk hse
  have HU := Aside0.mk hu
  have HN := Aside0.mk hp12
  have HT := Aside0.mk hT
  have HW := Aside0.mk hW
  have HC := Aside0.mk hC
  have HD := Aside0.mk hD
  have HX := Aside0.mk hX
  clear hT hW hC hD hX
  clear hr0 hc0 hbig hs hp hse hu hp12
  go_enter Try.func7, Try.ntmps7
  go_wp2_with (first | (go_at_call 19; refine (laws_big.calls A0 c0 l0 false _ HR0.out HC0.out HG.out).mono ?_; rintro e w1 ⟨rfl, ⟨nd, rfl⟩⟩) | (go_at_call 34; refine (spec_DrawSumOf.calls k A0 c0 l0 s _ (Kd.C_drewN HR0.out _) HC0.out HS.out).mono ?_; rintro e w2 ⟨rfl, hb2⟩) | (go_at_call 20; refine (spec_DrawPlaces.calls k A0 c0 l0 p _ (Kd.C_below (Kd.C_drewN HR0.out _) hb2) HC0.out HP.out).mono ?_; rintro e w3 ⟨v3, rfl, hP3, hb3⟩) | (go_at_call 35; refine (impl_Sealed.calls k s t true _ HE.out).mono ?_; rintro e w4 ⟨rfl, hb4⟩) | (go_at_call 36; refine (impl_Unsealed.calls k t s true _ HU.out).mono ?_; rintro e w5 ⟨rfl, hb5⟩))
  obtain ⟨Ap, cp, rfl⟩ := Kd.R_slice hP3
  obtain ⟨ad, e0, hx0⟩ := Kd.at_int (Kd.R_reads' hP3).2.2 0 (by omega) (by have := HN.out; omega)
  cases e0
  obtain ⟨ad', e0, hx1⟩ := Kd.at_int (Kd.R_reads' hP3).2.2 1 (by omega) (by have := HN.out; omega)
  cases e0
  rw [show ((0 : Int)).toNat = 0 from rfl, Addr.add_zero'] at hx0
  rw [show ((1 : Int)).toNat = 1 from rfl] at hx1
  have kb := print_bytes (P := Try.prog) 9 29 5 Try.underlying9 Try.underlying29 Try.underlying5 t w5
  have hb6 : Below w5.heap.size w5 (Lib.bytesWorld w5 5 t) := bytes_below (Below.refl _ _) (Nat.le_refl _) 5 t
  have hb36 : Below w3.heap.size w3 (Lib.bytesWorld w5 5 t) := below_then (below_then hb4 hb4.size hb5) (Nat.le_trans hb4.size hb5.size) hb6
  have hlt : ad.block < w3.heap.size := World.block_lt_of_cell? w3 _ hx0
  replace hx0 := (hb36.cell (p := ad) hlt).trans hx0
  replace hx1 := (hb36.cell (p := ad.add 1) (by simpa [Addr.add] using hlt)).trans hx1
  have hR : ReadsInt (Lib.bytesWorld w5 5 t) .u8 (some ⟨w5.heap.size, 0, none⟩) t.size (bytesOf t) := bytes_reads w5 5 t (by omega)
  have hc := Lib.bytesWorld_cell w5 5 t i hit
  have hf : (Lib.bytesWorld w5 5 t).frozen? ⟨w5.heap.size, i, none⟩ = false := by
    unfold World.frozen?
    rw [Lib.bytesWorld_at_new]
    have : ¬ ((Lib.bytesCells w5 5 t).size ≤ i) := by
      simp [Lib.bytesCells]
      omega
    simp [this]
  rw [kb]
  clear kb
  generalize grownCap w5 t.size 0 5 = cb
  generalize Lib.bytesWorld w5 5 t = W1 at hb6 hb36 hx0 hx1 hR hc hf ⊢
  generalize ((t.data.toList.getD i 0).toNat : Int) = bv at hc HT
  have n12 := HN.out
  have f1 : (0 < p.length) = True := eq_true (by omega)
  have f2 : (1 < p.length) = True := eq_true (by omega)
  have f8 : ((1 : Int) < (p.length : Int)) = True := eq_true (by omega)
  have f9 : ((0 : Int) < (p.length : Int)) = True := eq_true (by omega)
  replace hx1 : W1.cell? ⟨ad.block, ad.off + 1, none⟩ = some (.int .i64 (rd p 1)) := by simpa [Addr.add] using hx1
  have f3 : ((t.size : Int) = 0) = False := eq_false (by omega)
  have f4 : (i < t.size) = True := eq_true hit
  have f5 : ((i : Int) < (t.size : Int)) = True := eq_true (by omega)
  have f6 : (0 ≤ (i : Int)) = True := eq_true (by omega)
  have f7 : (t.size = 0) = False := eq_false (by omega)
  clear n12
  go_wp2
  refine start_ (n := 15) (S := fun w' => w'.cell? ⟨w5.heap.size, i, none⟩ = some (.int .u8 bv) ∧ w'.cell? ⟨ad.block, ad.off + 1, none⟩ = some (.int .i64 (rd p 1))) (ds := [14]) #[false, false, false, false, false, false, false, false, false, false, false, false, false, false, false] (by kernel_rfl) rfl rfl ⟨hc, hx1⟩ (fun hHeld => ?_)
  have hc2 : W1.drew.cell? ⟨w5.heap.size, i, none⟩ = some (.int .u8 bv) := hc
  have hf2 : W1.drew.frozen? ⟨w5.heap.size, i, none⟩ = false := hf
  have hR2 : ReadsInt W1.drew .u8 (some ⟨w5.heap.size, 0, none⟩) t.size (bytesOf t) := hR
  have hb7 : Below w5.heap.size w5 W1.drew := below_drew1 hb6
  clear hc hf hR hb6 hb36 hx0 hx1
  generalize W1.drew = W2 at hc2 hf2 hR2 hb7 hHeld ⊢
  refine pure_ (i := 0) (N := some 56) (v := ?_) (a' := ?_) #[true, false, false, false, false, false, false, false, false, false, false, false, false, false, false] rfl rfl (by kernel_rfl) (fun _ _ _ h => h) (Or.inl ⟨by rfl, ?_⟩) ?_ ?_
  rotate_left
  · intro w'
    go_simp
    with_reducible rfl
  rotate_left
  · simp only [Act.put, List.setIfInBounds_toArray, List.set_cons_zero, List.set_cons_succ, i64_w, i32_w]
    rfl
  refine pure_ (i := 1) (N := some 57) (v := ?_) (a' := ?_) #[true, true, false, false, false, false, false, false, false, false, false, false, false, false, false] rfl rfl (by kernel_rfl) (fun _ _ _ h => h) (Or.inl ⟨by rfl, ?_⟩) ?_ ?_
  rotate_left
  · intro w'
    go_simp
    with_reducible rfl
  rotate_left
  · simp only [Act.put, List.setIfInBounds_toArray, List.set_cons_zero, List.set_cons_succ, i64_w, i32_w]
    rfl
  refine pure_ (i := 2) (N := some 58) (v := ?_) (a' := ?_) #[true, true, true, false, false, false, false, false, false, false, false, false, false, false, false] rfl rfl (by kernel_rfl) (fun _ _ _ h => h) (Or.inl ⟨by rfl, ?_⟩) ?_ ?_
  rotate_left
  · intro w'
    go_simp
    with_reducible rfl
  rotate_left
  · simp only [Act.put, List.setIfInBounds_toArray, List.set_cons_zero, List.set_cons_succ, i64_w, i32_w]
    rfl
  refine pure_ (i := 3) (N := some 59) (v := ?_) (a' := ?_) #[true, true, true, true, false, false, false, false, false, false, false, false, false, false, false] rfl rfl (by kernel_rfl) (fun _ _ _ h => h) (Or.inl ⟨by rfl, ?_⟩) ?_ ?_
  rotate_left
  · intro w'
    go_simp
    with_reducible rfl
  rotate_left
  · simp only [Act.put, List.setIfInBounds_toArray, List.set_cons_zero, List.set_cons_succ, i64_w, i32_w]
    rfl
  refine pure_ (i := 4) (N := some 60) (v := ?_) (a' := ?_) #[true, true, true, true, true, false, false, false, false, false, false, false, false, false, false] rfl rfl (by kernel_rfl) (fun _ _ _ h => h) (Or.inl ⟨by rfl, ?_⟩) ?_ ?_
  rotate_left
  · intro w'
    go_simp
    with_reducible rfl
  rotate_left
  · simp only [Act.put, List.setIfInBounds_toArray, List.set_cons_zero, List.set_cons_succ, i64_w, i32_w]
    rfl
  refine take_ (i := 5) (N := some 61) (v := ?_) (a' := ?_) #[true, true, true, true, true, true, false, false, false, false, false, false, false, false, false] rfl rfl (by kernel_rfl) (fun _ _ _ h => h) (Or.inl ⟨by rfl, ?_⟩) hHeld ?_ ?_
  rotate_left
  · rintro w' ⟨s0, s1⟩
    go_simp
    with_reducible rfl
  rotate_left
  · simp only [Act.put, List.setIfInBounds_toArray, List.set_cons_zero, List.set_cons_succ, i64_w, i32_w]
    rfl
  refine pure_ (i := 6) (N := some 62) (v := ?_) (a' := ?_) #[true, true, true, true, true, true, true, false, false, false, false, false, false, false, false] rfl rfl (by kernel_rfl) (fun _ _ _ h => h) (Or.inl ⟨by rfl, ?_⟩) ?_ ?_
  rotate_left
  · intro w'
    go_simp
    with_reducible rfl
  rotate_left
  · simp only [Act.put, List.setIfInBounds_toArray, List.set_cons_zero, List.set_cons_succ, i64_w, i32_w]
    rfl
  refine pure_ (i := 7) (N := some 63) (v := ?_) (a' := ?_) #[true, true, true, true, true, true, true, true, false, false, false, false, false, false, false] rfl rfl (by kernel_rfl) (fun _ _ _ h => h) (Or.inl ⟨by rfl, ?_⟩) ?_ ?_
  rotate_left
  · intro w'
    go_simp
    with_reducible rfl
  rotate_left
  · simp only [Act.put, List.setIfInBounds_toArray, List.set_cons_zero, List.set_cons_succ, i64_w, i32_w]
    rfl
  refine take_ (i := 8) (N := some 64) (v := ?_) (a' := ?_) #[true, true, true, true, true, true, true, true, true, false, false, false, false, false, false] rfl rfl (by kernel_rfl) (fun _ _ _ h => h) (Or.inl ⟨by rfl, ?_⟩) hHeld ?_ ?_
  rotate_left
  · rintro w' ⟨s0, s1⟩
    go_simp
    with_reducible rfl
  rotate_left
  · simp only [Act.put, List.setIfInBounds_toArray, List.set_cons_zero, List.set_cons_succ, i64_w, i32_w]
    rfl
  refine pure_ (i := 9) (N := some 65) (v := ?_) (a' := ?_) #[true, true, true, true, true, true, true, true, true, true, false, false, false, false, false] rfl rfl (by kernel_rfl) (fun _ _ _ h => h) (Or.inl ⟨by rfl, ?_⟩) ?_ ?_
  rotate_left
  · intro w'
    go_simp
    with_reducible rfl
  rotate_left
  · simp only [Act.put, List.setIfInBounds_toArray, List.set_cons_zero, List.set_cons_succ, i64_w, i32_w]
    rfl
  refine pure_ (i := 10) (N := some 66) (v := ?_) (a' := ?_) #[true, true, true, true, true, true, true, true, true, true, true, false, false, false, false] rfl rfl (by kernel_rfl) (fun _ _ _ h => h) (Or.inl ⟨by rfl, ?_⟩) ?_ ?_
  rotate_left
  · intro w'
    go_simp
    with_reducible rfl
  rotate_left
  · simp only [Act.put, List.setIfInBounds_toArray, List.set_cons_zero, List.set_cons_succ, i64_w, i32_w]
    rfl
  refine pure_ (i := 11) (N := some 67) (v := ?_) (a' := ?_) #[true, true, true, true, true, true, true, true, true, true, true, true, false, false, false] rfl rfl (by kernel_rfl) (fun _ _ _ h => h) (Or.inl ⟨by rfl, ?_⟩) ?_ ?_
  rotate_left
  · intro w'
    go_simp
    with_reducible rfl
  rotate_left
  · simp only [Act.put, List.setIfInBounds_toArray, List.set_cons_zero, List.set_cons_succ, i64_w, i32_w]
    rfl
  refine pure_ (i := 12) (N := some 68) (v := ?_) (a' := ?_) #[true, true, true, true, true, true, true, true, true, true, true, true, true, false, false] rfl rfl (by kernel_rfl) (fun _ _ _ h => h) (Or.inl ⟨by rfl, ?_⟩) ?_ ?_
  rotate_left
  · intro w'
    go_simp
    with_reducible rfl
  rotate_left
  · simp only [Act.put, List.setIfInBounds_toArray, List.set_cons_zero, List.set_cons_succ, i64_w, i32_w]
    rfl
  refine pure_ (i := 13) (N := some 69) (v := ?_) (a' := ?_) #[true, true, true, true, true, true, true, true, true, true, true, true, true, true, false] rfl rfl (by kernel_rfl) (fun _ _ _ h => h) (Or.inl ⟨by rfl, ?_⟩) ?_ ?_
  rotate_left
  · intro w'
    go_simp
    with_reducible rfl
  rotate_left
  · simp only [Act.put, List.setIfInBounds_toArray, List.set_cons_zero, List.set_cons_succ, i64_w, i32_w]
    rfl
  refine last_ (i := 14) (N := none) #[true, true, true, true, true, true, true, true, true, true, true, true, true, true, true] rfl rfl (by kernel_rfl) (by decide) (fun K hK => ?_)
  refine skip_ (w1 := ?_) (by rfl) rfl ?_ ?_
  rotate_left
  · go_simp
    rfl
  refine hK.out _ _ ?_
  clear hK K
  refine done_ (by kernel_rfl) ?_
  have hb8 : Below w5.heap.size w5 (W2.setCell ⟨w5.heap.size, i, none⟩ (.int .u8 (Go.bits .xor .u8 bv (IntKind.u8.wrap (wrap64 (1 + (rd p 1).tmod 255)))))) := below_set hb7 (Nat.le_refl _)
  have hR3 : ReadsInt (W2.setCell ⟨w5.heap.size, i, none⟩ (.int .u8 (Go.bits .xor .u8 bv (IntKind.u8.wrap (wrap64 (1 + (rd p 1).tmod 255)))))) .u8 (some ⟨w5.heap.size, 0, none⟩) t.size ((bytesOf t).set i (Go.bits .xor .u8 bv (IntKind.u8.wrap (wrap64 (1 + (rd p 1).tmod 255))))) := reads_set hR2 i _
  generalize W2.setCell ⟨w5.heap.size, i, none⟩ (.int .u8 (Go.bits .xor .u8 bv (IntKind.u8.wrap (wrap64 (1 + (rd p 1).tmod 255))))) = W3 at hb8 hR3 ⊢
  have kb3 := string_of_reads (P := Try.prog) (dst := 9) (c := cb) Try.underlying29 Try.underlying5 Try.underlying9 hR3
  rw [HT.out] at kb3
  go_wp2_with (first | (go_at_call 36; refine (impl_Unsealed.calls k t' q false _ HW.out).mono ?_; rintro e w6 ⟨rfl, hb9⟩))
  refine (impl_SumOf.calls k s c _ HC.out).mono ?_
  rintro e w7 ⟨rfl, ⟨nd1, rfl⟩⟩
  go_wp2_with (first | (go_at_call 37; refine (impl_SumMore.calls k c ⟨#[120]⟩ d _ HD.out).mono ?_; rintro e w8 ⟨rfl, ⟨nd2, rfl⟩⟩))
  generalize s ++ (⟨#[120]⟩ : ByteArray) = sx at HX ⊢
  with_reducible refine (impl_SumOf.calls k sx d _ HX.out).mono ?_
  rintro e w9 ⟨rfl, ⟨nd3, rfl⟩⟩
  go_wp2
  go_ret
  exact ⟨rfl, pw_below_drewN (below_step (below_step (below_step (below_step (below_step (below_step (pw_below_drewN (Below.refl _ _) _) hb2) hb3) hb4) hb5) hb8) hb9) _⟩

theorem walk_big (A0 : Option Addr) (c0 : Nat) (l0 : List Int) (w : World) (hr0 : Kd.C (Kd.int .u8) w A0 l0.length l0) (hc0 : l0.length ≤ c0) (hbig : laws_big.f l0 = some true) :
    Calls Try.prog 7 #[.slice A0 l0.length c0] w fun e w' => e = .returned (.bool true) ∧ Below w.heap.size w w' := by
  have HR0 := Aside0.mk hr0
  have HC0 := Aside0.mk hc0
  have HG := Aside0.mk hbig
  clear hr0 hc0 hbig
  go_enter Try.func7, Try.ntmps7
  go_wp2_with (go_at_call 19; refine (laws_big.calls A0 c0 l0 true _ HR0.out HC0.out HG.out).mono ?_; rintro e w1 ⟨rfl, ⟨nd, rfl⟩⟩)
  go_ret
  exact ⟨rfl, pw_below_drewN (Below.refl _ _) _⟩
theorem walk_all (a0 : Option Addr) (len0 cap0 : Nat) (z0 : List Int) (w : World) (w0 : (a0 = none ∧ len0 = 0 ∧ cap0 = 0 ∧ z0 = []) ∨ ∃ x, a0 = some x ∧ len0 ≤ cap0 ∧ cap0 ≤ maxLen ∧ z0.length = cap0 ∧ (∀ i, i < z0.length → w.cell? (x.add i) = some (.int .u8 (z0.getD i 0))) ∧ ∀ n ∈ z0, (Lit.int .u8 n).wf = true) (y0 : len0 * 1 ≤ 140737488351232) :
    Calls Try.prog 7 #[.slice a0 len0 cap0] w fun e w' => e = .returned (.bool true) ∧ Below w.heap.size w w' := by
  obtain ⟨l0, rfl, hr0, hm0, hw0, hc0⟩ := ReadsInt.ofRowC w0
  have hr : Kd.C (Kd.int .u8) w a0 l0.length l0 := Kd.C_of_reads (d := (0 : Int)) (h1 := fun _ => rfl) hr0
  by_cases hb : (l0.length : Int) > 1048576
  · exact walk_big a0 cap0 l0 w hr hc0 (by unfold laws_big.f; rw [decide_eq_true hb])
  · obtain ⟨k, s, t, t', q, p, i, c, d, h1, h2, h3, h4, h5, h6, h7, h8, h9, h10, h11, h12, h13, h14⟩ := Pure.facts l0 (by omega)
    exact walk k a0 cap0 l0 s t q p w hr hc0 (by unfold laws_big.f; rw [decide_eq_false hb]) h1 h2 h3 h4 h5 (by omega) (by omega) i h9 h8 t' c d h10 h11 h12 h13 h14 h6 (by rw [bne_eq_false_iff_eq]; omega)
end Go.Proofs.Ytfkjjehkngmgaaa.fnTurned
