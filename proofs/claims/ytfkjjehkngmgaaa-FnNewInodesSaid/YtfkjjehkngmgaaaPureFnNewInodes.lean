/- FnNewInodes: for every draw, a new inode is right, has one link (of no kind: none) and points nowhere; no condition. -/
import Derived.Test.YtfkjjehkngmgaaaPFnNewInodesx2
import Derived.Test.YtfkjjehkngmgaaaAid
namespace Go.Proofs.Ytfkjjehkngmgaaa.Pure
open Go.RowKit Go.Proofs.Ytfkjjehkngmgaaa.PFnNewInodes Go.Proofs.YtfkjjehkngmgaaaW.PrintWords Go.Proofs.YtfkjjehkngmgaaaW.PrintLast Go.Proofs.YtfkjjehkngmgaaaW.PrintMore Go.Proofs.Ytfkjjehkngmgaaa.Aid
set_option linter.unusedVariables false
set_option linter.unusedSimpArgs false

theorem big_eq (l : List Int) : laws_big.f l = some (decide ((l.length : Int) > 1048576)) := rfl

theorem new_ends (s : List Int) (hs : s.length ≤ 140737488351232) (d : Nat) : ∀ (h i : Int), 0 ≤ i → i ≤ s.length → (s.length : Int) - i = d → ∃ h', Ev (fun k => spec_l01New.l0 k s h i) (s, 0, h') := by
  induction d with
  | zero =>
    intro h i h0 h1 hd
    exact ⟨h, Ev.last (fun k => by simp only [spec_l01New.l0]; rw [if_neg (by omega)])⟩
  | succ d ih =>
    intro h i h0 h1 hd
    by_cases hf : i < 4000
    · obtain ⟨h', hr⟩ := ih (Go.bits .and .i64 (wrap64 ((wrap64 ((wrap64 (h * 131)) + (wrap64 (rd s i)))) + 7)) 1073741823) (i + 1) (by omega) (by omega) (by omega)
      exact ⟨h', Ev.step (fun k => by simp only [spec_l01New.l0]; rw [if_pos (by omega), if_pos hf, if_pos h0, w64 (x := i + 1) (by omega) (by omega)]) hr⟩
    · exact ⟨h, Ev.last (fun k => by simp only [spec_l01New.l0]; rw [if_pos (by omega), if_neg hf])⟩
theorem new_ev (s : List Int) (hs : s.length ≤ 140737488351232) : ∃ h, Ev (fun k => spec_l01New.f k s) (s, 0, h) := by
  obtain ⟨h, hr⟩ := new_ends s hs s.length (wrap64 (37701 + (s.length : Int))) 0 (by omega) (by omega) (by omega)
  exact ⟨h, hr⟩

theorem byte_some (s : List Int) (hs : s.length ≤ 140737488351232) (i h : Int) (h0 : 0 ≤ i) (h1 : i ≤ s.length) : ∃ b i' h', spec_l01Byte.f s i h = some (b, i', h') ∧ 0 ≤ b ∧ b ≤ 255 ∧ 0 ≤ i' ∧ i' ≤ s.length := by
  unfold spec_l01Byte.f
  by_cases hi : i < (s.length : Int)
  · rw [if_pos hi, if_pos h0, w64 (x := i + 1) (by omega) (by omega), and255]
    exact ⟨_, _, _, rfl, by omega, by omega, by omega, by omega⟩
  · rw [if_neg hi, and255]
    exact ⟨_, _, _, rfl, by omega, by omega, by omega, by omega⟩

theorem below_some (s : List Int) (hs : s.length ≤ 140737488351232) (i h n : Int) (h0 : 0 ≤ i) (h1 : i ≤ s.length) : ∃ r i' h', spec_l01Below.f s i h n = some (r, i', h') ∧ 0 ≤ i' ∧ i' ≤ s.length ∧ 0 ≤ r ∧ (n ≤ 0 → r = 0) ∧ (0 < n → r < n) := by
  unfold spec_l01Below.f
  by_cases hn : n ≤ 0
  · rw [if_pos hn]
    exact ⟨_, _, _, rfl, h0, h1, by omega, fun _ => rfl, fun h => by omega⟩
  · rw [if_neg hn]
    by_cases hm : n ≤ 256
    · rw [if_pos hm]
      obtain ⟨b, i1, h1', e, b0, b1, c0, c1⟩ := byte_some s hs i h h0 h1
      rw [e]
      simp only [Option.bind_some]
      rw [if_neg (by omega), tmod_nn b0]
      have p0 := Int.emod_nonneg b (show n ≠ 0 by omega)
      have p1 := Int.emod_lt_of_pos b (show 0 < n by omega)
      exact ⟨_, _, _, rfl, c0, c1, p0, fun h => by omega, fun _ => p1⟩
    · rw [if_neg hm]
      obtain ⟨a, i1, g1, e1, a0, a1, c0, c1⟩ := byte_some s hs i h h0 h1
      rw [e1]
      simp only [Option.bind_some]
      obtain ⟨b, i2, g2, e2, b0, b1, d0, d1⟩ := byte_some s hs i1 g1 c0 c1
      rw [e2]
      simp only [Option.bind_some]
      obtain ⟨c, i3, g3, e3, k0, k1, f0, f1⟩ := byte_some s hs i2 g2 d0 d1
      rw [e3]
      simp only [Option.bind_some]
      obtain ⟨d, i4, g4, e4, l0, l1, m0, m1⟩ := byte_some s hs i3 g3 f0 f1
      rw [e4]
      simp only [Option.bind_some]
      rw [if_neg (by omega), w64 (x := a * 16777216) (by omega) (by omega), w64 (x := b * 65536) (by omega) (by omega), w64 (x := c * 256) (by omega) (by omega), w64 (x := a * 16777216 + b * 65536) (by omega) (by omega),
        w64 (x := a * 16777216 + b * 65536 + c * 256) (by omega) (by omega), w64 (x := a * 16777216 + b * 65536 + c * 256 + d) (by omega) (by omega), tmod_nn (by omega)]
      have p0 := Int.emod_nonneg (a * 16777216 + b * 65536 + c * 256 + d) (show n ≠ 0 by omega)
      have p1 := Int.emod_lt_of_pos (a * 16777216 + b * 65536 + c * 256 + d) (show 0 < n by omega)
      exact ⟨_, _, _, rfl, m0, m1, p0, fun h => by omega, fun _ => p1⟩

theorem places_loop (s : List Int) (hs : s.length ≤ 140737488351232) (d : Nat) : ∀ (l : List Int) (i h j : Int), 0 ≤ j → j ≤ 12 → 12 - j = d → l.length = j → (∀ x ∈ l, 0 ≤ x ∧ x < 10000) → 0 ≤ i → i ≤ s.length → ∃ r, Ev (fun k => spec_DrawPlaces.l0 k l j s i h) r ∧ r.length = 12 ∧ ∀ x ∈ r, 0 ≤ x ∧ x < 10000 := by
  induction d with
  | zero =>
    intro l i h j j0 j1 hd hl hx h0 h1
    exact ⟨l, Ev.last (fun k => by simp only [spec_DrawPlaces.l0]; rw [if_neg (by omega)]), by omega, hx⟩
  | succ d ih =>
    intro l i h j j0 j1 hd hl hx h0 h1
    obtain ⟨b, i', h', e, c0, c1, b0, _, b1⟩ := below_some s hs i h 10000 h0 h1
    obtain ⟨r, hr, hrl⟩ := ih (l ++ [b]) i' h' (j + 1) (by omega) (by omega) (by omega) (by simp; omega) (fun x hx' => by
      rcases List.mem_append.1 hx' with hx' | hx'
      · exact hx x hx'
      · rw [List.mem_singleton.1 hx']
        exact ⟨b0, b1 (by omega)⟩) c0 c1
    exact ⟨r, Ev.step (fun k => by
      simp only [spec_DrawPlaces.l0]
      rw [if_pos (by omega), e]
      simp only [Option.bind_some]
      rw [if_pos (by omega), w64 (x := j + 1) (by omega) (by omega)]) hr, hrl⟩
theorem places_ev (s : List Int) (hs : s.length ≤ 140737488351232) : ∃ r, Ev (fun k => spec_DrawPlaces.f k s) r ∧ r.length = 12 ∧ ∀ x ∈ r, 0 ≤ x ∧ x < 10000 := by
  obtain ⟨h, hn⟩ := new_ev s hs
  obtain ⟨b, i', h', e, b0, b1, c0, c1⟩ := byte_some s hs 0 h (by omega) (by omega)
  obtain ⟨r, hr, hrl⟩ := places_loop s hs 12 [] i' h' 0 (by omega) (by omega) (by omega) (by simp) (by simp) c0 c1
  refine ⟨r, ?_, hrl⟩
  unfold spec_DrawPlaces.f
  refine Ev.bind hn ?_
  simp only [e, Option.bind_some]
  exact hr

theorem within_eq (a b c : Int) : impl_within.f a b c = some (decide (b ≤ a ∧ a ≤ c)) := by
  unfold impl_within.f
  by_cases h : a ≥ b
  · rw [if_pos h]
    simp [show b ≤ a from h]
  · rw [if_neg h]
    simp [show ¬ b ≤ a from h]

theorem new_all : ∀ n : Fin 3, impl_InodeText.f 12 ((n.val : Nat) : Int) (if n.val = 0 then 0 else 1) [0, 0] = some (strOfNums [((n.val : Nat) : Int) % 256, if n.val = 0 then 0 else 1, 0, 0], true) ∧ impl_InodeOk.f 12 ((n.val : Nat) : Int) (if n.val = 0 then 0 else 1) [0, 0] = some true ∧ laws_sameInts.f 12 [0, 0] [0, 0] = some true ∧ impl_InodeNew.f ((n.val : Nat) : Int) = some (((n.val : Nat) : Int), if n.val = 0 then 0 else 1, [0, 0]) := by decide +kernel
theorem FnNewInodes : laws_FnNewInodes.Pure := by
  intro s hm hs _
  by_cases hb : (s.length : Int) > 1048576
  · refine ⟨0, ?_⟩
    unfold laws_FnNewInodes.f
    rw [big_eq, decide_eq_true hb]
    rfl
  · obtain ⟨r, hr, hl, hx⟩ := places_ev s (by omega)
    have a0 := hx _ (rd_mem (xs := r) (i := 0) (by omega) (by omega))
    refine Ev.rounds ?_
    unfold laws_FnNewInodes.f
    simp only [big_eq, decide_eq_false hb, Option.bind_some]
    refine Ev.congr (fun k => by rw [if_neg (by simp)]) (Ev.bind hr ?_)
    simp only [if_pos (show (0 : Int) < (r.length : Int) by omega), tmod_nn a0.1]
    obtain ⟨n, hn, hn3⟩ : ∃ n : Nat, rd r 0 % 3 = (n : Int) ∧ n < 3 := ⟨(rd r 0 % 3).toNat, by omega, by omega⟩
    rw [hn]
    obtain ⟨h1, h2, h3, h4⟩ := new_all ⟨n, hn3⟩
    simp only at h1 h2 h3 h4
    have e1 := Ev.of (fun k => impl_InodeText.mono _ _ _ k) h1
    have e2 := Ev.of (fun k => impl_InodeOk.mono _ _ _ k) h2
    have e3 := Ev.of (fun k => laws_sameInts.mono _ _ k) h3
    simp only [h4, Option.bind_some]
    by_cases h0 : n = 0
    · subst h0
      refine Ev.bind e1 ?_
      simp only [if_true]
      exact Ev.bind e2 (Ev.bind e3 (Ev.now' fun _ => by simp))
    · have hi : ¬ (n : Int) = 0 := by omega
      simp only [if_neg h0] at e1 e2 ⊢
      refine Ev.bind e1 ?_
      simp only [if_neg hi, if_true]
      exact Ev.bind e2 (Ev.bind e3 (Ev.now' fun _ => by simp))
end Go.Proofs.Ytfkjjehkngmgaaa.Pure
