/- FnExactVarText: for every int the program's VarText answers what the reference's does; no condition. -/
import Derived.Test.YtlknhideolaefaaPFnExactVarTextx1
namespace Go.Proofs.Ytlknhideolaefaa.Pure
open Go.RowKit Go.Proofs.Ytlknhideolaefaa.PFnExactVarText Go.Proofs.YtlknhideolaefaaW.PrintWords Go.Proofs.YtlknhideolaefaaW.PrintLast

theorem in_eq (a b c : Int) : spec_l01In.f a b c = some (decide (b ≤ a ∧ a ≤ c)) := by
  unfold spec_l01In.f
  by_cases h : a ≥ b
  · rw [if_pos h]
    simp [show b ≤ a from h]
  · rw [if_neg h]
    simp [show ¬ b ≤ a from h]
theorem within_eq (a b c : Int) : impl_within.f a b c = some (decide (b ≤ a ∧ a ≤ c)) := by
  unfold impl_within.f
  by_cases h : a ≥ b
  · rw [if_pos h]
    simp [show b ≤ a from h]
  · rw [if_neg h]
    simp [show ¬ b ≤ a from h]

theorem var_loops (d : Nat) : ∀ (k : Nat) (n : Int) (l : List Int), 0 ≤ n → n ≤ 1000000000 → n < d → l.length + n ≤ 1000000000 → d < k →
    ∃ r, spec_l01Var.l0 k n l = some r ∧ impl_VarText.l0 k n l = some (r, true) := by
  induction d with
  | zero => intro k n l h0 h1 hd; omega
  | succ d ih =>
    intro k n l h0 h1 hd hl hk
    obtain ⟨k, rfl⟩ : ∃ m, k = m + 1 := ⟨k - 1, by omega⟩
    simp only [spec_l01Var.l0, impl_VarText.l0]
    by_cases hb : n > 127
    · have e1 : Int.tdiv n 128 = n / 128 := Int.tdiv_eq_ediv_of_nonneg h0
      have e2 : wrap64 (n / 128) = n / 128 := by unfold wrap64; omega
      rw [if_pos hb, if_pos hb, if_pos (by omega), if_pos (by omega), e1, e2]
      exact ih k (n / 128) _ (by omega) (by omega) (by omega) (by simp; omega) (by omega)
    · rw [if_neg hb, if_neg hb, if_pos (by omega), if_pos (by omega)]
      exact ⟨_, rfl, rfl⟩

theorem FnExactVarText : laws_FnExactVarText.Pure := by
  intro n hn
  by_cases h : 0 ≤ n ∧ n ≤ 1000000000
  · obtain ⟨r, h1, h2⟩ := var_loops (n.toNat + 1) (n.toNat + 2) n [] h.1 h.2 (by omega) (by simp; omega) (by omega)
    refine ⟨n.toNat + 2, ?_⟩
    unfold laws_FnExactVarText.f spec_VarText.f impl_VarText.f spec_l01Var.f
    rw [in_eq, within_eq, h1, h2]
    simp [h]
  · refine ⟨0, ?_⟩
    unfold laws_FnExactVarText.f spec_VarText.f impl_VarText.f
    rw [in_eq, within_eq]
    simp [h]
end Go.Proofs.Ytlknhideolaefaa.Pure
