/- FnExactShortText: for every text the program's ShortText answers what the reference's does; no condition. -/
import Derived.Test.YtlknhideolaefaaPFnExactShortTextx1
namespace Go.Proofs.Ytlknhideolaefaa.Pure
open Go.RowKit Go.Proofs.Ytlknhideolaefaa.PFnExactShortText Go.Proofs.YtlknhideolaefaaW.PrintWords Go.Proofs.YtlknhideolaefaaW.PrintLast

theorem within_eq (a b c : Int) : impl_within.f a b c = some (decide (b ≤ a ∧ a ≤ c)) := by
  unfold impl_within.f
  by_cases h : a ≥ b
  · rw [if_pos h]
    simp [show b ≤ a from h]
  · rw [if_neg h]
    simp [show ¬ b ≤ a from h]
theorem strOfNums_size (xs : List Int) : (strOfNums xs).size = xs.length := by
  simp [strOfNums, ByteArray.size]

theorem var_loops (d : Nat) : ∀ (k : Nat) (n : Int) (l : List Int), 0 ≤ n → n ≤ 1000000000 → n < d → l.length + n ≤ 1000000000 → d < k →
    ∃ r, spec_l01Var.l0 k n l = some r ∧ impl_VarText.l0 k n l = some (r, true) ∧ r.size ≤ 1000000001 := by
  induction d with
  | zero => intro k n l h0 h1 hd; omega
  | succ d ih =>
    intro k n l h0 h1 hd hl hk
    obtain ⟨k, rfl⟩ : ∃ m, k = m + 1 := ⟨k - 1, by omega⟩
    simp only [spec_l01Var.l0, impl_VarText.l0]
    by_cases hb : n > 127
    · have e1 : Int.tdiv n 128 = n / 128 := Int.tdiv_eq_ediv_of_nonneg h0
      have e2 : wrap64 (n / 128) = n / 128 := by unfold wrap64; omega
      rw [if_pos hb, if_pos hb, if_pos (by omega), if_pos (by omega), e1, e2]
      exact ih k (n / 128) _ (by omega) (by omega) (by omega) (by simp; omega) (by omega)
    · rw [if_neg hb, if_neg hb, if_pos (by omega), if_pos (by omega)]
      exact ⟨_, rfl, rfl, by rw [strOfNums_size]; simp; omega⟩

theorem FnExactShortText : laws_FnExactShortText.Pure := by
  intro s hs
  by_cases h : (s.size : Int) > 20000
  · refine ⟨0, ?_⟩
    unfold laws_FnExactShortText.f spec_ShortText.f impl_ShortText.f
    by_cases h' : (s.size : Int) > 1048576
    · rw [if_pos h']
    · rw [if_neg h', if_pos h, if_pos h]
      simp
  · obtain ⟨r, h1, h2, hr⟩ := var_loops (s.size + 1) (s.size + 2) s.size [] (by omega) (by omega) (by omega) (by simp; omega) (by omega)
    refine ⟨s.size + 2, ?_⟩
    unfold laws_FnExactShortText.f spec_ShortText.f impl_ShortText.f spec_l01Var.f impl_VarText.f
    rw [if_neg (by omega), if_neg h, if_neg h, within_eq, h1]
    have hd : decide (0 ≤ (s.size : Int) ∧ (s.size : Int) ≤ 1000000000) = true := decide_eq_true (by omega)
    simp only [Option.bind_some, hd, if_true, h2]
    rw [if_pos (by omega)]
    simp
end Go.Proofs.Ytlknhideolaefaa.Pure
