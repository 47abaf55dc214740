/- FnExactSumOf: for every text the program's SumOf answers what the reference's does; no condition. -/
import Derived.Test.YtlknhideolaefaaPFnExactSumOfx1
namespace Go.Proofs.Ytlknhideolaefaa.Pure
open Go.RowKit Go.Proofs.Ytlknhideolaefaa.PFnExactSumOf Go.Proofs.YtlknhideolaefaaW.PrintWords Go.Proofs.YtlknhideolaefaaW.PrintLast
theorem sum_same (k : Nat) : (∀ x s i, impl_SumMore.l0 k x s i = spec_SumMore.l0 k x s i) ∧ (∀ x s i j, impl_SumMore.l1 k x s i j = spec_SumMore.l1 k x s i j) := by
  induction k with
  | zero => exact ⟨fun _ _ _ => rfl, fun _ _ _ _ => rfl⟩
  | succ k ih =>
    refine ⟨fun x s i => ?_, fun x s i j => ?_⟩
    · simp only [impl_SumMore.l0, spec_SumMore.l0, ih.2]
    · simp only [impl_SumMore.l1, spec_SumMore.l1, ih.1, ih.2]

theorem sum_bits (s : ByteArray) (i : Int) (next : Nat → Int → Option Int) (hn : ∀ x, ∃ r, Ev (fun k => next k x) r) (hnext : ∀ k x, next k x = spec_SumMore.l0 k x s (wrap64 (i + 1))) (d : Nat) : ∀ (x j : Int), 0 ≤ j → j ≤ 8 → 8 - j = d → ∃ r, Ev (fun k => spec_SumMore.l1 k x s i j) r := by
  induction d with
  | zero =>
    intro x j h0 h1 hd
    obtain ⟨r, hr⟩ := hn x
    exact ⟨r, Ev.step (f := fun k => next k x) (fun k => by simp only [spec_SumMore.l1]; rw [if_neg (by omega), hnext]) hr⟩
  | succ d ih =>
    intro x j h0 h1 hd
    have hw : wrap64 (j + 1) = j + 1 := by unfold wrap64; omega
    by_cases ho : Int.tmod x 2 = 1
    · obtain ⟨r, hr⟩ := ih (Go.bits .xor .u32 ((Int.tdiv x 2) % 4294967296) 3558460437) (j + 1) (by omega) (by omega) (by omega)
      exact ⟨r, Ev.step (fun k => by simp only [spec_SumMore.l1]; rw [if_pos (by omega), if_pos ho, hw]) hr⟩
    · obtain ⟨r, hr⟩ := ih ((Int.tdiv x 2) % 4294967296) (j + 1) (by omega) (by omega) (by omega)
      exact ⟨r, Ev.step (fun k => by simp only [spec_SumMore.l1]; rw [if_pos (by omega), if_neg ho, hw]) hr⟩

theorem sum_ends (s : ByteArray) (hs : s.size ≤ 140737488351232) (d : Nat) : ∀ (x i : Int), 0 ≤ i → i ≤ s.size → (s.size : Int) - i = d → ∃ r, Ev (fun k => spec_SumMore.l0 k x s i) r := by
  induction d with
  | zero =>
    intro x i h0 h1 hd
    exact ⟨x, Ev.step (f := fun _ => some x) (fun k => by simp only [spec_SumMore.l0]; rw [if_neg (by omega)]) (Ev.now x)⟩
  | succ d ih =>
    intro x i h0 h1 hd
    have hw : wrap64 (i + 1) = i + 1 := by unfold wrap64; omega
    obtain ⟨r, hr⟩ := sum_bits s i (fun k x => spec_SumMore.l0 k x s (i + 1)) (fun x => ih x (i + 1) (by omega) (by omega) (by omega)) (fun k x => by rw [hw]) 8 (Go.bits .xor .u32 x ((bt s i) % 4294967296)) 0 (by omega) (by omega) (by omega)
    exact ⟨r, Ev.step (fun k => by simp only [spec_SumMore.l0]; rw [if_pos (by omega), if_pos h0]) hr⟩

theorem FnExactSumOf : laws_FnExactSumOf.Pure := by
  intro s hs
  obtain ⟨r, hr⟩ := sum_ends s hs s.size 4294967295 0 (by omega) (by omega) (by omega)
  obtain ⟨k, hk⟩ := hr.rounds
  refine ⟨k, ?_⟩
  unfold laws_FnExactSumOf.f spec_SumOf.f impl_SumOf.f spec_SumMore.f impl_SumMore.f
  rw [(sum_same k).1, hk]
  simp
end Go.Proofs.Ytlknhideolaefaa.Pure
