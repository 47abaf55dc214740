/- FnExactFirstFree: for every list of bools the program's FirstFree answers what the reference's does, and leaves its argument as it was; no condition. -/
import Derived.Test.YtlknhideolaefaaPFnExactFirstFreex1
import Derived.Test.YtlknhideolaefaaAid
namespace Go.Proofs.Ytlknhideolaefaa.Pure
open Go.RowKit Go.Proofs.Ytlknhideolaefaa.PFnExactFirstFree Go.Proofs.YtlknhideolaefaaW.PrintWords Go.Proofs.YtlknhideolaefaaW.PrintLast Go.Proofs.YtlknhideolaefaaW.PrintMore Go.Proofs.Ytlknhideolaefaa.Aid
set_option linter.unusedVariables false
set_option linter.unusedSimpArgs false

theorem laws_toBoolS_loop (l : List (Bool)) (hl : l.length ≤ 1048576) (d : Nat) : ∀ (y : List (Bool)) (i : Int), 0 ≤ i → i ≤ l.length → (l.length : Int) - i = d → y.length = l.length → y.take i.toNat = l.take i.toNat → Ev (fun k => laws_toBoolS.l0 k l y i) l := by
  induction d with
  | zero =>
    intro y i h0 h1 hd hy ht
    have e : y = l := take_all hy (by rw [show l.length = i.toNat by omega]; exact ht)
    subst e
    exact Ev.last (fun k => by simp only [laws_toBoolS.l0]; rw [if_neg (by omega)])
  | succ d ih =>
    intro y i h0 h1 hd hy ht
    have hw : wrap64 (i + 1) = i + 1 := w64 (by omega) (by omega)
    have hs := set_take l y false i.toNat (by omega) hy ht
    refine Ev.step (fun k => ?_) (ih (y.set i.toNat (l.getD i.toNat false)) (i + 1) (by omega) (by omega) (by omega) (by rw [List.length_set]; exact hy) (by rw [toNat_succ h0]; exact hs))
    simp only [laws_toBoolS.l0]
    rw [if_pos (by omega), if_pos h0, if_pos (by omega), hw]
    rfl
theorem laws_toBoolS_ev (l : List (Bool)) (hl : l.length ≤ 1048576) : Ev (fun k => laws_toBoolS.f k l) l := by
  have h := laws_toBoolS_loop l hl l.length (List.replicate l.length false) 0 (by omega) (by omega) (by omega) (by simp) (by simp)
  refine Ev.congr (fun k => ?_) h
  unfold laws_toBoolS.f
  rw [if_pos (by omega), if_pos (by omega)]
  rfl

theorem laws_eqBoolS_loop (l : List (Bool)) (hl : l.length ≤ 1048576) (d : Nat) : ∀ (i : Int), 0 ≤ i → i ≤ l.length → (l.length : Int) - i = d → Ev (fun k => laws_eqBoolS.l0 k l l i) true := by
  induction d with
  | zero =>
    intro i h0 h1 hd
    exact Ev.last (fun k => by simp only [laws_eqBoolS.l0]; rw [if_neg (by omega)])
  | succ d ih =>
    intro i h0 h1 hd
    have hw : wrap64 (i + 1) = i + 1 := w64 (by omega) (by omega)
    refine Ev.step (fun k => ?_) (ih (i + 1) (by omega) (by omega) (by omega))
    simp only [laws_eqBoolS.l0]
    rw [if_pos (by omega), if_pos h0, if_pos (by omega), hw]
    simp
theorem laws_eqBoolS_refl (l : List (Bool)) (hl : l.length ≤ 1048576) : Ev (fun k => laws_eqBoolS.f k l l) true := by
  refine Ev.congr (fun k => ?_) (laws_eqBoolS_loop l hl l.length 0 (by omega) (by omega) (by omega))
  unfold laws_eqBoolS.f
  rw [if_pos rfl]

theorem firstfree_loops (l : List Bool) (hl : l.length ≤ 1048576) (d : Nat) : ∀ (i : Int), 0 ≤ i → i ≤ l.length → (l.length : Int) - i = d → ∃ n, Ev (fun k => spec_FirstFree.l0 k l i) n ∧ Ev (fun k => impl_FirstFree.l0 k l (l.length : Int) i) n := by
  induction d with
  | zero =>
    intro i h0 h1 hd
    exact ⟨0, Ev.last (fun k => by simp only [spec_FirstFree.l0]; rw [if_neg (by omega)]), Ev.last (fun k => by simp only [impl_FirstFree.l0]; rw [if_neg (by omega)])⟩
  | succ d ih =>
    intro i h0 h1 hd
    have hw : wrap64 (i + 1) = i + 1 := w64 (by omega) (by omega)
    by_cases ht : rdOf false l i = true
    · obtain ⟨n, hr1, hr2⟩ := ih (i + 1) (by omega) (by omega) (by omega)
      exact ⟨n, Ev.step (fun k => by simp only [spec_FirstFree.l0]; rw [if_pos (by omega), if_pos h0, if_pos ht, hw]) hr1, Ev.step (fun k => by simp only [impl_FirstFree.l0]; rw [if_pos (by omega), if_pos h0, if_pos (by omega), if_pos ht, hw]) hr2⟩
    · exact ⟨i + 1, Ev.last (fun k => by simp only [spec_FirstFree.l0]; rw [if_pos (by omega), if_pos h0, if_neg ht, hw]), Ev.last (fun k => by simp only [impl_FirstFree.l0]; rw [if_pos (by omega), if_pos h0, if_pos (by omega), if_neg ht, hw])⟩
theorem FnExactFirstFree : laws_FnExactFirstFree.Pure := by
  intro l hg
  unfold laws_FnExactFirstFree.f
  by_cases h : (l.length : Int) > 1048576
  · exact ⟨0, by rw [if_pos h]⟩
  · simp only [if_neg h]
    have hl : l.length ≤ 1048576 := by omega
    obtain ⟨n, h1, h2⟩ := firstfree_loops l hl l.length 0 (by omega) (by omega) (by omega)
    have e1 : Ev (fun k => spec_FirstFree.f k l) n := h1
    have e2 : Ev (fun k => impl_FirstFree.f k l) n := h2
    refine Ev.rounds (Ev.bind (laws_toBoolS_ev l hl) (Ev.bind e1 (Ev.bind (laws_toBoolS_ev l hl) (Ev.bind e2 ?_))))
    simp only [if_true]
    exact Ev.bind (laws_toBoolS_ev l hl) (Ev.bind (laws_eqBoolS_refl l hl) (Ev.now _))
end Go.Proofs.Ytlknhideolaefaa.Pure
