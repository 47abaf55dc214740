/- FnExactUnhex: for every text the program's Unhex answers what the reference's does; no condition. -/
import Derived.Test.YtnnjfjomaeleoaaPFnExactUnhexx1
import Derived.Test.YtnnjfjomaeleoaaAid
namespace Go.Proofs.Ytnnjfjomaeleoaa.Pure
open Go.RowKit Go.Proofs.Ytnnjfjomaeleoaa.PFnExactUnhex Go.Proofs.YtnnjfjomaeleoaaW.PrintWords Go.Proofs.YtnnjfjomaeleoaaW.PrintLast Go.Proofs.YtnnjfjomaeleoaaW.PrintMore Go.Proofs.Ytnnjfjomaeleoaa.Aid
set_option linter.unusedVariables false
set_option linter.unusedSimpArgs false

/-- A figure's value; -1 of another byte. -/
def hv (c : Int) : Int := if 48 ≤ c ∧ c ≤ 57 then c - 48 else if 97 ≤ c ∧ c ≤ 102 then c - 87 else -1
theorem hv_range (c : Int) : -1 ≤ hv c ∧ hv c ≤ 15 := by
  unfold hv
  split
  · omega
  · split <;> omega
theorem index_all : ∀ n : Fin 256, strings_IndexByte.f (⟨#[48, 49, 50, 51, 52, 53, 54, 55, 56, 57, 97, 98, 99, 100, 101, 102]⟩ : ByteArray) ((n.val : Nat) : Int) = some (hv ((n.val : Nat) : Int)) := by decide +kernel
theorem index_eq (c : Int) (h0 : 0 ≤ c) (h1 : c ≤ 255) : strings_IndexByte.f (⟨#[48, 49, 50, 51, 52, 53, 54, 55, 56, 57, 97, 98, 99, 100, 101, 102]⟩ : ByteArray) c = some (hv c) := by
  have h := index_all ⟨c.toNat, by omega⟩
  rwa [Int.toNat_of_nonneg h0] at h
/-- The bytes that the figures from i on make; none where one is no figure. -/
def unhexOf (s : ByteArray) : Nat → Nat → Option (List Int)
  | _, 0 => some []
  | i, m + 1 => if hv (bt s (i : Int)) < 0 ∨ hv (bt s ((i + 1 : Nat) : Int)) < 0 then none else (unhexOf s (i + 2) m).map fun r => (16 * hv (bt s (i : Int)) + hv (bt s ((i + 1 : Nat) : Int))) :: r
def uh (l : List Int) : Option (List Int) → ByteArray × Bool
  | none => (⟨#[]⟩, false)
  | some r => (strOfNums (l ++ r), true)
theorem impl_unhex_loop (s : ByteArray) (hs : s.size ≤ 40000) (m : Nat) : ∀ (l : List Int) (i : Nat), i + 2 * m = s.size → l.length ≤ i → Ev (fun k => impl_Unhex.l0 k s l (i : Int)) (uh l (unhexOf s i m)) := by
  induction m with
  | zero =>
    intro l i hi hl
    refine Ev.last (fun k => ?_)
    simp only [impl_Unhex.l0, unhexOf, uh, List.append_nil]
    rw [if_neg (by omega)]
  | succ m ih =>
    intro l i hi hl
    have hb := bt_range s (i : Int)
    have hc := bt_range s ((i + 1 : Nat) : Int)
    have h1 := hv_range (bt s (i : Int))
    have h2 := hv_range (bt s ((i + 1 : Nat) : Int))
    have hw1 : wrap64 ((i : Int) + 1) = ((i + 1 : Nat) : Int) := by rw [w64 (by omega) (by omega)]; omega
    have hw2 : wrap64 ((i : Int) + 2) = ((i + 2 : Nat) : Int) := by rw [w64 (by omega) (by omega)]; omega
    by_cases hbad : hv (bt s (i : Int)) < 0 ∨ hv (bt s ((i + 1 : Nat) : Int)) < 0
    · refine Ev.last (fun k => ?_)
      simp only [impl_Unhex.l0, unhexOf, hw1, index_eq _ hb.1 hb.2, index_eq _ hc.1 hc.2, Option.bind_some]
      rw [if_pos hbad, if_pos (by omega), if_pos (by omega), if_pos (by omega), if_pos (by omega)]
      by_cases q : hv (bt s (i : Int)) < 0
      · rw [if_pos q]
        rfl
      · rw [if_neg q, if_pos (by omega)]
        rfl
    · have hi' := ih (l ++ [16 * hv (bt s (i : Int)) + hv (bt s ((i + 1 : Nat) : Int))]) (i + 2) (by omega) (by simp; omega)
      have e : uh l (unhexOf s i (m + 1)) = uh (l ++ [16 * hv (bt s (i : Int)) + hv (bt s ((i + 1 : Nat) : Int))]) (unhexOf s (i + 2) m) := by
        simp only [unhexOf, if_neg hbad]
        cases unhexOf s (i + 2) m with
        | none => rfl
        | some r => simp [uh]
      rw [e]
      refine Ev.step (fun k => ?_) hi'
      simp only [impl_Unhex.l0, hw1, hw2, index_eq _ hb.1 hb.2, index_eq _ hc.1 hc.2, Option.bind_some]
      rw [if_pos (by omega), if_pos (by omega), if_pos (by omega), if_pos (by omega), if_neg (by omega), if_neg (by omega), if_pos (by omega), w64 (x := 16 * hv (bt s (i : Int))) (by omega) (by omega), w64 (by omega) (by omega), show (16 * hv (bt s (i : Int)) + hv (bt s ((i + 1 : Nat) : Int))) % 256 = 16 * hv (bt s (i : Int)) + hv (bt s ((i + 1 : Nat) : Int)) by omega]
/-- What both Unhexes answer. -/
def UH (s : ByteArray) : ByteArray × Bool := if s.size ≤ 40000 ∧ s.size % 2 = 0 then uh [] (unhexOf s 0 (s.size / 2)) else (⟨#[]⟩, false)
theorem impl_unhex (s : ByteArray) : Ev (fun k => impl_Unhex.f k s) (UH s) := by
  have no : ¬ (s.size ≤ 40000 ∧ s.size % 2 = 0) → Ev (fun k => impl_Unhex.j0 k s true) (UH s) := fun h => Ev.last (fun k => by simp only [impl_Unhex.j0]; unfold UH; rw [if_neg h]; rfl)
  unfold impl_Unhex.f
  by_cases h2 : s.size % 2 = 0
  · simp only [if_pos (show (s.size : Int) % 2 = 0 by omega)]
    by_cases h1 : s.size ≤ 40000
    · rw [decide_eq_false (by omega)]
      refine Ev.step (f := fun k => impl_Unhex.l0 k s [] 0) (fun k => by simp only [impl_Unhex.j0]; rfl) ?_
      unfold UH
      rw [if_pos ⟨h1, h2⟩]
      exact impl_unhex_loop s h1 (s.size / 2) [] 0 (by omega) (by simp)
    · rw [decide_eq_true (by omega)]
      exact no (fun h => h1 h.1)
  · simp only [if_neg (show ¬ (s.size : Int) % 2 = 0 by omega)]
    exact no (fun h => h2 h.2)

theorem value_ev (c : Int) (h0 : 0 ≤ c) (h1 : c ≤ 255) : Ev (fun k => spec_l01Value.f k c) (hv c) := by
  unfold spec_l01Value.f hv
  by_cases a : c ≥ 48
  · simp only [if_pos a]
    by_cases b : c ≤ 57
    · rw [decide_eq_true b, if_pos ⟨a, b⟩]
      exact Ev.last (fun k => by simp only [spec_l01Value.j0]; rw [if_pos trivial, w64 (x := c) (by omega) (by omega), w64 (by omega) (by omega)])
    · rw [decide_eq_false b, if_neg (fun h => b h.2)]
      refine Ev.last (fun k => ?_)
      simp only [spec_l01Value.j0]
      rw [if_neg (by simp)]
      by_cases d : c ≥ 97
      · rw [if_pos d]
        by_cases e : c ≤ 102
        · rw [if_pos e, if_pos ⟨d, e⟩, w64 (x := c) (by omega) (by omega), w64 (x := c - 97) (by omega) (by omega), w64 (by omega) (by omega)]
          congr 1
          omega
        · rw [if_neg e, if_neg (fun h => e h.2)]
      · rw [if_neg d, if_neg (fun h => d h.1)]
  · simp only [if_neg a]
    rw [if_neg (fun h => a h.1), if_neg (fun h => by omega)]
    refine Ev.last (fun k => ?_)
    simp only [spec_l01Value.j0]
    rw [if_neg (by simp), if_neg (by omega)]
theorem spec_unhex_loop (s : ByteArray) (hs : s.size ≤ 40000) (m : Nat) : ∀ (l : List Int) (i : Nat), i + 2 * m = s.size → l.length ≤ i → Ev (fun k => spec_Unhex.l0 k s l (i : Int)) (uh l (unhexOf s i m)) := by
  induction m with
  | zero =>
    intro l i hi hl
    refine Ev.last (fun k => ?_)
    simp only [spec_Unhex.l0, unhexOf, uh, List.append_nil]
    rw [if_neg (by omega)]
  | succ m ih =>
    intro l i hi hl
    have hb := bt_range s (i : Int)
    have hc := bt_range s ((i + 1 : Nat) : Int)
    have h1 := hv_range (bt s (i : Int))
    have h2 := hv_range (bt s ((i + 1 : Nat) : Int))
    have hw1 : wrap64 ((i : Int) + 1) = ((i + 1 : Nat) : Int) := by rw [w64 (by omega) (by omega)]; omega
    have hw2 : wrap64 ((i : Int) + 2) = ((i + 2 : Nat) : Int) := by rw [w64 (by omega) (by omega)]; omega
    refine Ev.step (f := fun k => (spec_l01Value.f k (bt s (i : Int))).bind fun x => (spec_l01Value.f k (bt s ((i + 1 : Nat) : Int))).bind fun y => if x < 0 then some ((⟨#[]⟩ : ByteArray), false) else if y < 0 then some ((⟨#[]⟩ : ByteArray), false) else if l.length < 140737488355328 then spec_Unhex.l0 k s (l ++ [(wrap64 ((wrap64 (16 * x)) + y)) % 256]) ((i + 2 : Nat) : Int) else none) (fun k => ?_) ?_
    · simp only [spec_Unhex.l0, hw1, hw2]
      rw [if_pos (by omega), if_pos (by omega)]
      simp only [if_pos (show (0 : Int) ≤ ((i + 1 : Nat) : Int) by omega), if_pos (show ((i + 1 : Nat) : Int) < (s.size : Int) by omega)]
    · refine Ev.bind (value_ev _ hb.1 hb.2) (Ev.bind (value_ev _ hc.1 hc.2) ?_)
      by_cases hbad : hv (bt s (i : Int)) < 0 ∨ hv (bt s ((i + 1 : Nat) : Int)) < 0
      · refine Ev.now' fun k => ?_
        simp only [unhexOf, if_pos hbad]
        by_cases q : hv (bt s (i : Int)) < 0
        · rw [if_pos q]
          rfl
        · rw [if_neg q, if_pos (by omega)]
          rfl
      · have hi' := ih (l ++ [16 * hv (bt s (i : Int)) + hv (bt s ((i + 1 : Nat) : Int))]) (i + 2) (by omega) (by simp; omega)
        have e : uh l (unhexOf s i (m + 1)) = uh (l ++ [16 * hv (bt s (i : Int)) + hv (bt s ((i + 1 : Nat) : Int))]) (unhexOf s (i + 2) m) := by
          simp only [unhexOf, if_neg hbad]
          cases unhexOf s (i + 2) m with
          | none => rfl
          | some r => simp [uh]
        rw [e]
        refine Ev.congr (fun k => ?_) hi'
        rw [if_neg (by omega), if_neg (by omega), if_pos (by omega), w64 (x := 16 * hv (bt s (i : Int))) (by omega) (by omega), w64 (by omega) (by omega), show (16 * hv (bt s (i : Int)) + hv (bt s ((i + 1 : Nat) : Int))) % 256 = 16 * hv (bt s (i : Int)) + hv (bt s ((i + 1 : Nat) : Int)) by omega]
theorem spec_unhex (s : ByteArray) : Ev (fun k => spec_Unhex.f k s) (UH s) := by
  have no : ¬ (s.size ≤ 40000 ∧ s.size % 2 = 0) → Ev (fun k => spec_Unhex.j0 k s true) (UH s) := fun h => Ev.last (fun k => by simp only [spec_Unhex.j0]; unfold UH; rw [if_neg h]; rfl)
  unfold spec_Unhex.f
  by_cases h1 : s.size ≤ 40000
  · simp only [if_neg (show ¬ (s.size : Int) > 40000 by omega)]
    by_cases h2 : s.size % 2 = 0
    · rw [show (((s.size : Int) % 2) != 0) = false by rw [bne_eq_false_iff_eq]; omega]
      refine Ev.step (f := fun k => spec_Unhex.l0 k s [] 0) (fun k => by simp only [spec_Unhex.j0]; rfl) ?_
      unfold UH
      rw [if_pos ⟨h1, h2⟩]
      exact spec_unhex_loop s h1 (s.size / 2) [] 0 (by omega) (by simp)
    · rw [show (((s.size : Int) % 2) != 0) = true by rw [bne_iff_ne]; omega]
      exact no (fun h => h2 h.2)
  · simp only [if_pos (show (s.size : Int) > 40000 by omega)]
    exact no (fun h => h1 h.1)

theorem FnExactUnhex : laws_FnExactUnhex.Pure := by
  intro s hs
  unfold laws_FnExactUnhex.f
  by_cases h : (s.size : Int) > 1048576
  · exact ⟨0, by rw [if_pos h]⟩
  · simp only [if_neg h]
    exact Ev.rounds (Ev.bind (spec_unhex s) (Ev.bind (impl_unhex s) (Ev.now' fun _ => by simp)))
end Go.Proofs.Ytnnjfjomaeleoaa.Pure
