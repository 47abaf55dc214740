/- FnExactNameOk: for every text the program's NameOk answers what the reference's does; no condition. -/
import Derived.Test.YtlknhideolaefaaPFnExactNameOkx1
namespace Go.Proofs.Ytlknhideolaefaa.Pure
open Go.RowKit Go.Proofs.Ytlknhideolaefaa.PFnExactNameOk Go.Proofs.YtlknhideolaefaaW.PrintWords Go.Proofs.YtlknhideolaefaaW.PrintLast

theorem in_eq (a b c : Int) : spec_l01In.f a b c = some (decide (b ≤ a ∧ a ≤ c)) := by
  unfold spec_l01In.f
  by_cases h : a ≥ b
  · rw [if_pos h]
    simp [show b ≤ a from h]
  · rw [if_neg h]
    simp [show ¬ b ≤ a from h]
theorem within_eq (a b c : Int) : impl_within.f a b c = some (decide (b ≤ a ∧ a ≤ c)) := by
  unfold impl_within.f
  by_cases h : a ≥ b
  · rw [if_pos h]
    simp [show b ≤ a from h]
  · rw [if_neg h]
    simp [show ¬ b ≤ a from h]

theorem name_loops (s : ByteArray) (hs : s.size ≤ 140737488351232) (d : Nat) : ∀ (k : Nat) (i : Int), 0 ≤ i → i ≤ s.size → (s.size : Int) - i = d → d < k →
    ∃ r, spec_NameOk.l0 k s i = some r ∧ impl_NameOk.l0 k s (s.size : Int) i = some r := by
  induction d with
  | zero =>
    intro k i h0 h1 hd hk
    obtain ⟨k, rfl⟩ : ∃ m, k = m + 1 := ⟨k - 1, by omega⟩
    refine ⟨decide (1 ≤ (s.size : Int) ∧ (s.size : Int) ≤ 6), ?_, ?_⟩
    · simp only [spec_NameOk.l0]
      rw [if_neg (by omega), in_eq]
      rfl
    · simp only [impl_NameOk.l0]
      rw [if_neg (by omega), within_eq]
      rfl
  | succ d ih =>
    intro k i h0 h1 hd hk
    obtain ⟨k, rfl⟩ : ∃ m, k = m + 1 := ⟨k - 1, by omega⟩
    have hi : i < (s.size : Int) := by omega
    have hw : wrap64 (i + 1) = i + 1 := by unfold wrap64; omega
    have hb := bt_range s i
    have hwb : wrap64 (bt s i) = bt s i := by unfold wrap64; omega
    obtain ⟨r, hr1, hr2⟩ := ih k (i + 1) (by omega) (by omega) (by omega) (by omega)
    simp only [spec_NameOk.l0, impl_NameOk.l0]
    rw [if_pos hi, if_pos h0, if_pos hi, if_pos h0, if_pos hi, hw, hwb, hr1, hr2]
    unfold impl_within.f
    by_cases a1 : bt s i ≥ 97
    · by_cases a2 : bt s i ≤ 122
      · exact ⟨r, by rw [if_neg (by omega), if_neg (by omega)], by simp [a1, a2]⟩
      · by_cases b1 : bt s i ≥ 48
        · have b2 : ¬ bt s i ≤ 57 := by omega
          exact ⟨false, by rw [if_neg (by omega), if_pos (by omega), if_neg (by omega), if_pos (by omega)], by simp [a1, a2, b1, b2]⟩
        · omega
    · by_cases b1 : bt s i ≥ 48
      · by_cases b2 : bt s i ≤ 57
        · exact ⟨r, by rw [if_pos (by omega), if_neg (by omega), if_neg (by omega)], by simp [a1, b1, b2]⟩
        · exact ⟨false, by rw [if_pos (by omega), if_neg (by omega), if_pos (by omega)], by simp [a1, b1, b2]⟩
      · exact ⟨false, by rw [if_pos (by omega), if_pos (by omega)], by simp [a1, b1]⟩

theorem FnExactNameOk : laws_FnExactNameOk.Pure := by
  intro s hs
  obtain ⟨r, h1, h2⟩ := name_loops s hs s.size (s.size + 1) 0 (by omega) (by omega) (by omega) (by omega)
  refine ⟨s.size + 1, ?_⟩
  unfold laws_FnExactNameOk.f spec_NameOk.f impl_NameOk.f
  rw [h1, h2]
  simp
end Go.Proofs.Ytlknhideolaefaa.Pure
