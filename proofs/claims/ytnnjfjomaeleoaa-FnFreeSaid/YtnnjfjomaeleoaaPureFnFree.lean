/- FnFree: for every draw, the first free place that the program's FirstFree tells is free, and all ahead of it are used; no condition. -/
import Derived.Test.YtnnjfjomaeleoaaPFnFreex2
import Derived.Test.YtnnjfjomaeleoaaAid
namespace Go.Proofs.Ytnnjfjomaeleoaa.Pure
open Go.RowKit Go.Proofs.Ytnnjfjomaeleoaa.PFnFree Go.Proofs.YtnnjfjomaeleoaaW.PrintWords Go.Proofs.YtnnjfjomaeleoaaW.PrintLast Go.Proofs.YtnnjfjomaeleoaaW.PrintMore Go.Proofs.Ytnnjfjomaeleoaa.Aid
set_option linter.unusedVariables false
set_option linter.unusedSimpArgs false

theorem big_eq (l : List Int) : laws_big.f l = some (decide ((l.length : Int) > 1048576)) := rfl

theorem new_ends (s : List Int) (hs : s.length ≤ 140737488351232) (d : Nat) : ∀ (h i : Int), 0 ≤ i → i ≤ s.length → (s.length : Int) - i = d → ∃ h', Ev (fun k => spec_l01New.l0 k s h i) (s, 0, h') := by
  induction d with
  | zero =>
    intro h i h0 h1 hd
    exact ⟨h, Ev.last (fun k => by simp only [spec_l01New.l0]; rw [if_neg (by omega)])⟩
  | succ d ih =>
    intro h i h0 h1 hd
    by_cases hf : i < 4000
    · obtain ⟨h', hr⟩ := ih (Go.bits .and .i64 (wrap64 ((wrap64 ((wrap64 (h * 131)) + (wrap64 (rd s i)))) + 7)) 1073741823) (i + 1) (by omega) (by omega) (by omega)
      exact ⟨h', Ev.step (fun k => by simp only [spec_l01New.l0]; rw [if_pos (by omega), if_pos hf, if_pos h0, w64 (x := i + 1) (by omega) (by omega)]) hr⟩
    · exact ⟨h, Ev.last (fun k => by simp only [spec_l01New.l0]; rw [if_pos (by omega), if_neg hf])⟩
theorem new_ev (s : List Int) (hs : s.length ≤ 140737488351232) : ∃ h, Ev (fun k => spec_l01New.f k s) (s, 0, h) := by
  obtain ⟨h, hr⟩ := new_ends s hs s.length (wrap64 (37701 + (s.length : Int))) 0 (by omega) (by omega) (by omega)
  exact ⟨h, hr⟩

theorem byte_some (s : List Int) (hs : s.length ≤ 140737488351232) (i h : Int) (h0 : 0 ≤ i) (h1 : i ≤ s.length) : ∃ b i' h', spec_l01Byte.f s i h = some (b, i', h') ∧ 0 ≤ b ∧ b ≤ 255 ∧ 0 ≤ i' ∧ i' ≤ s.length := by
  unfold spec_l01Byte.f
  by_cases hi : i < (s.length : Int)
  · rw [if_pos hi, if_pos h0, w64 (x := i + 1) (by omega) (by omega), and255]
    exact ⟨_, _, _, rfl, by omega, by omega, by omega, by omega⟩
  · rw [if_neg hi, and255]
    exact ⟨_, _, _, rfl, by omega, by omega, by omega, by omega⟩

theorem below_some (s : List Int) (hs : s.length ≤ 140737488351232) (i h n : Int) (h0 : 0 ≤ i) (h1 : i ≤ s.length) : ∃ r i' h', spec_l01Below.f s i h n = some (r, i', h') ∧ 0 ≤ i' ∧ i' ≤ s.length ∧ 0 ≤ r ∧ (n ≤ 0 → r = 0) ∧ (0 < n → r < n) := by
  unfold spec_l01Below.f
  by_cases hn : n ≤ 0
  · rw [if_pos hn]
    exact ⟨_, _, _, rfl, h0, h1, by omega, fun _ => rfl, fun h => by omega⟩
  · rw [if_neg hn]
    by_cases hm : n ≤ 256
    · rw [if_pos hm]
      obtain ⟨b, i1, h1', e, b0, b1, c0, c1⟩ := byte_some s hs i h h0 h1
      rw [e]
      simp only [Option.bind_some]
      rw [if_neg (by omega), tmod_nn b0]
      have p0 := Int.emod_nonneg b (show n ≠ 0 by omega)
      have p1 := Int.emod_lt_of_pos b (show 0 < n by omega)
      exact ⟨_, _, _, rfl, c0, c1, p0, fun h => by omega, fun _ => p1⟩
    · rw [if_neg hm]
      obtain ⟨a, i1, g1, e1, a0, a1, c0, c1⟩ := byte_some s hs i h h0 h1
      rw [e1]
      simp only [Option.bind_some]
      obtain ⟨b, i2, g2, e2, b0, b1, d0, d1⟩ := byte_some s hs i1 g1 c0 c1
      rw [e2]
      simp only [Option.bind_some]
      obtain ⟨c, i3, g3, e3, k0, k1, f0, f1⟩ := byte_some s hs i2 g2 d0 d1
      rw [e3]
      simp only [Option.bind_some]
      obtain ⟨d, i4, g4, e4, l0, l1, m0, m1⟩ := byte_some s hs i3 g3 f0 f1
      rw [e4]
      simp only [Option.bind_some]
      rw [if_neg (by omega), w64 (x := a * 16777216) (by omega) (by omega), w64 (x := b * 65536) (by omega) (by omega), w64 (x := c * 256) (by omega) (by omega), w64 (x := a * 16777216 + b * 65536) (by omega) (by omega),
        w64 (x := a * 16777216 + b * 65536 + c * 256) (by omega) (by omega), w64 (x := a * 16777216 + b * 65536 + c * 256 + d) (by omega) (by omega), tmod_nn (by omega)]
      have p0 := Int.emod_nonneg (a * 16777216 + b * 65536 + c * 256 + d) (show n ≠ 0 by omega)
      have p1 := Int.emod_lt_of_pos (a * 16777216 + b * 65536 + c * 256 + d) (show 0 < n by omega)
      exact ⟨_, _, _, rfl, m0, m1, p0, fun h => by omega, fun _ => p1⟩

theorem once_some (s : List Int) (hs : s.length ≤ 140737488351232) (i h n : Int) (h0 : 0 ≤ i) (h1 : i ≤ s.length) : ∃ b i' h', spec_l01Once.f s i h n = some (b, i', h') ∧ 0 ≤ i' ∧ i' ≤ s.length := by
  unfold spec_l01Once.f
  obtain ⟨r, i1, g1, e, c0, c1, _⟩ := below_some s hs i h n h0 h1
  rw [e]
  exact ⟨_, _, _, rfl, c0, c1⟩

/-- What the first free place is. -/
def FF (l : List Bool) (n : Int) : Prop := (n = 0 ∧ ∀ j : Int, 0 ≤ j → j < l.length → rdOf false l j = true) ∨ (1 ≤ n ∧ n ≤ l.length ∧ rdOf false l (n - 1) = false ∧ ∀ j : Int, 0 ≤ j → j < n - 1 → rdOf false l j = true)
theorem firstfree_ends (l : List Bool) (hl : l.length ≤ 140737488355328) (d : Nat) : ∀ (i : Int), 0 ≤ i → i ≤ l.length → (l.length : Int) - i = d → (∀ j : Int, 0 ≤ j → j < i → rdOf false l j = true) → ∃ n, Ev (fun k => impl_FirstFree.l0 k l (l.length : Int) i) n ∧ FF l n := by
  induction d with
  | zero =>
    intro i h0 h1 hd hu
    exact ⟨0, Ev.last (fun k => by simp only [impl_FirstFree.l0]; rw [if_neg (by omega)]), .inl ⟨rfl, fun j j0 j1 => hu j j0 (by omega)⟩⟩
  | succ d ih =>
    intro i h0 h1 hd hu
    have hw : wrap64 (i + 1) = i + 1 := w64 (by omega) (by omega)
    by_cases ht : rdOf false l i = true
    · obtain ⟨n, hr, hf⟩ := ih (i + 1) (by omega) (by omega) (by omega) (fun j j0 j1 => by
        by_cases hj : j = i
        · rw [hj]; exact ht
        · exact hu j j0 (by omega))
      exact ⟨n, Ev.step (fun k => by simp only [impl_FirstFree.l0]; rw [if_pos (by omega), if_pos h0, if_pos (by omega), if_pos ht, hw]) hr, hf⟩
    · exact ⟨i + 1, Ev.last (fun k => by simp only [impl_FirstFree.l0]; rw [if_pos (by omega), if_pos h0, if_pos (by omega), if_neg ht, hw]), .inr ⟨by omega, by omega, by rw [show i + 1 - 1 = i by omega]; simpa using ht, fun j j0 j1 => hu j j0 (by omega)⟩⟩
theorem firstfree_ev (l : List Bool) (hl : l.length ≤ 140737488355328) : ∃ n, Ev (fun k => impl_FirstFree.f k l) n ∧ FF l n :=
  firstfree_ends l hl l.length 0 (by omega) (by omega) (by omega) (fun j j0 j1 => by omega)

theorem draw_loop (s : List Int) (hs : s.length ≤ 140737488351232) (d : Nat) : ∀ (l : List Bool) (j i h : Int), 0 ≤ j → j ≤ 9 → 9 - j = d → l.length = j → 0 ≤ i → i ≤ s.length → ∃ r, Ev (fun k => spec_DrawFirstFree.l0 k l j s i h) r ∧ r.length ≤ 9 := by
  induction d with
  | zero =>
    intro l j i h j0 j1 hd hl h0 h1
    obtain ⟨b, i', h', e, c0, c1, b0, _, b1⟩ := below_some s hs i h 9 h0 h1
    exact ⟨l, Ev.last (fun k => by
      have := b1 (by omega)
      simp only [spec_DrawFirstFree.l0]
      rw [e]
      simp only [Option.bind_some]
      rw [if_neg (by omega)]), by omega⟩
  | succ d ih =>
    intro l j i h j0 j1 hd hl h0 h1
    obtain ⟨b, i', h', e, c0, c1, b0, _, b1⟩ := below_some s hs i h 9 h0 h1
    obtain ⟨b2, i2, h2, e2, d0, d1⟩ := once_some s hs i' h' 4 c0 c1
    by_cases hb : j < b
    · obtain ⟨r, hr, hrl⟩ := ih (l ++ [!b2]) (j + 1) i2 h2 (by omega) (by omega) (by omega) (by simp; omega) d0 d1
      exact ⟨r, Ev.step (fun k => by
        simp only [spec_DrawFirstFree.l0]
        rw [e]
        simp only [Option.bind_some]
        rw [if_pos hb, e2]
        simp only [Option.bind_some]
        rw [if_pos (by omega), w64 (x := j + 1) (by omega) (by omega)]) hr, hrl⟩
    · exact ⟨l, Ev.last (fun k => by
        simp only [spec_DrawFirstFree.l0]
        rw [e]
        simp only [Option.bind_some]
        rw [if_neg hb]), by omega⟩
theorem draw_ev (s : List Int) (hs : s.length ≤ 140737488351232) : ∃ r, Ev (fun k => spec_DrawFirstFree.f k s) r ∧ r.length ≤ 9 := by
  obtain ⟨h, hn⟩ := new_ev s hs
  obtain ⟨r, hr, hrl⟩ := draw_loop s hs 9 [] 0 0 h (by omega) (by omega) (by omega) (by simp) (by omega) (by omega)
  refine ⟨r, ?_, hrl⟩
  unfold spec_DrawFirstFree.f
  exact Ev.bind hn hr
theorem law_loop (l : List Bool) (hl : l.length ≤ 9) (n : Int) (hf : FF l n) (d : Nat) : ∀ (i : Int), 0 ≤ i → i ≤ l.length → (l.length : Int) - i = d → Ev (fun k => laws_FnFree.l0 k l n i) true := by
  have two : Ev (fun k => impl_FirstFree.f k [true, false]) 2 := Ev.of (fun k => impl_FirstFree.mono _ k) (k := 5) (by decide +kernel)
  have n0 : 0 ≤ n := by rcases hf with h | h <;> omega
  have n1 : n ≤ l.length := by rcases hf with h | h <;> omega
  induction d with
  | zero =>
    intro i h0 h1 hd
    refine Ev.step (f := fun k => (impl_FirstFree.f k [true, false]).bind fun t => some (t == 2)) (fun k => by simp only [laws_FnFree.l0]; rw [if_neg (by omega), if_pos (by omega), if_pos (by omega)]) ?_
    exact Ev.bind two (Ev.now' fun _ => rfl)
  | succ d ih =>
    intro i h0 h1 hd
    have hw : wrap64 (i + 1) = i + 1 := w64 (by omega) (by omega)
    have hn : wrap64 (n - 1) = n - 1 := w64 (by omega) (by omega)
    refine Ev.step (fun k => ?_) (ih (i + 1) (by omega) (by omega) (by omega))
    simp only [laws_FnFree.l0]
    rw [if_pos (show i < (l.length : Int) by omega), hw, hn]
    rcases hf with ⟨rfl, hu⟩ | ⟨a0, a1, af, hu⟩
    · have ht := hu i h0 (by omega)
      rw [if_pos rfl, if_pos h0, if_pos ht, if_neg (by omega), if_neg (by omega)]
    · rw [if_neg (by omega), if_pos (by omega)]
      by_cases c : i < n - 1
      · rw [if_pos c, if_pos h0, if_pos (hu i h0 c), if_neg (by omega)]
      · rw [if_neg c]
        by_cases c2 : n = i + 1
        · have hfalse : rdOf false l i = false := by rw [show i = n - 1 by omega]; exact af
          rw [if_pos c2, if_pos h0, if_neg (by rw [hfalse]; simp)]
        · rw [if_neg c2]
theorem FnFree : laws_FnFree.Pure := by
  intro s hm hs _
  by_cases hb : (s.length : Int) > 1048576
  · refine ⟨0, ?_⟩
    unfold laws_FnFree.f
    rw [big_eq, decide_eq_true hb]
    rfl
  · obtain ⟨r, hr, hl⟩ := draw_ev s (by omega)
    obtain ⟨n, hn, hf⟩ := firstfree_ev r (by omega)
    have h := law_loop r hl n hf r.length 0 (by omega) (by omega) (by omega)
    refine Ev.rounds (r := true) ?_
    unfold laws_FnFree.f
    simp only [big_eq, decide_eq_false hb, Option.bind_some]
    refine Ev.congr (f := fun k => (spec_DrawFirstFree.f k s).bind fun t => (impl_FirstFree.f k t).bind fun n => laws_FnFree.l0 k t n 0) (fun k => by rw [if_neg (by simp)]) ?_
    exact Ev.bind hr (Ev.bind hn h)
end Go.Proofs.Ytnnjfjomaeleoaa.Pure
