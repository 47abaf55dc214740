/- FnExactBitsOk: for every Bits the program's BitsOk answers what the reference's does, and leaves its argument as it was; no condition. -/
import Derived.Test.YtnnjfjomaeleoaaPFnExactBitsOkx2
import Derived.Test.YtnnjfjomaeleoaaAid
namespace Go.Proofs.Ytnnjfjomaeleoaa.Pure
open Go.RowKit Go.Proofs.Ytnnjfjomaeleoaa.PFnExactBitsOk Go.Proofs.YtnnjfjomaeleoaaW.PrintWords Go.Proofs.YtnnjfjomaeleoaaW.PrintLast Go.Proofs.YtnnjfjomaeleoaaW.PrintMore Go.Proofs.Ytnnjfjomaeleoaa.Aid
set_option linter.unusedVariables false
set_option linter.unusedSimpArgs false

theorem laws_szBoolS_eq (l : List (Bool)) (a : Int) (hl : l.length ≤ 140737488355328) (h0 : 0 ≤ a) (h1 : a ≤ 1048576) : laws_szBoolS.f l a = some (if a - l.length < 0 then -1 else a - l.length) := by
  unfold laws_szBoolS.f
  rw [w64 (by omega) (by omega)]
  split <;> rfl

theorem laws_toBoolS_loop (l : List (Bool)) (hl : l.length ≤ 1048576) (d : Nat) : ∀ (y : List (Bool)) (i : Int), 0 ≤ i → i ≤ l.length → (l.length : Int) - i = d → y.length = l.length → y.take i.toNat = l.take i.toNat → Ev (fun k => laws_toBoolS.l0 k l y i) l := by
  induction d with
  | zero =>
    intro y i h0 h1 hd hy ht
    have e : y = l := take_all hy (by rw [show l.length = i.toNat by omega]; exact ht)
    subst e
    exact Ev.last (fun k => by simp only [laws_toBoolS.l0]; rw [if_neg (by omega)])
  | succ d ih =>
    intro y i h0 h1 hd hy ht
    have hw : wrap64 (i + 1) = i + 1 := w64 (by omega) (by omega)
    have hs := set_take l y false i.toNat (by omega) hy ht
    refine Ev.step (fun k => ?_) (ih (y.set i.toNat (l.getD i.toNat false)) (i + 1) (by omega) (by omega) (by omega) (by rw [List.length_set]; exact hy) (by rw [toNat_succ h0]; exact hs))
    simp only [laws_toBoolS.l0]
    rw [if_pos (by omega), if_pos h0, if_pos (by omega), hw]
    rfl
theorem laws_toBoolS_ev (l : List (Bool)) (hl : l.length ≤ 1048576) : Ev (fun k => laws_toBoolS.f k l) l := by
  have h := laws_toBoolS_loop l hl l.length (List.replicate l.length false) 0 (by omega) (by omega) (by omega) (by simp) (by simp)
  refine Ev.congr (fun k => ?_) h
  unfold laws_toBoolS.f
  rw [if_pos (by omega), if_pos (by omega)]
  rfl

theorem laws_eqBoolS_loop (l : List (Bool)) (hl : l.length ≤ 1048576) (d : Nat) : ∀ (i : Int), 0 ≤ i → i ≤ l.length → (l.length : Int) - i = d → Ev (fun k => laws_eqBoolS.l0 k l l i) true := by
  induction d with
  | zero =>
    intro i h0 h1 hd
    exact Ev.last (fun k => by simp only [laws_eqBoolS.l0]; rw [if_neg (by omega)])
  | succ d ih =>
    intro i h0 h1 hd
    have hw : wrap64 (i + 1) = i + 1 := w64 (by omega) (by omega)
    refine Ev.step (fun k => ?_) (ih (i + 1) (by omega) (by omega) (by omega))
    simp only [laws_eqBoolS.l0]
    rw [if_pos (by omega), if_pos h0, if_pos (by omega), hw]
    simp
theorem laws_eqBoolS_refl (l : List (Bool)) (hl : l.length ≤ 1048576) : Ev (fun k => laws_eqBoolS.f k l l) true := by
  refine Ev.congr (fun k => ?_) (laws_eqBoolS_loop l hl l.length 0 (by omega) (by omega) (by omega))
  unfold laws_eqBoolS.f
  rw [if_pos rfl]

theorem toBits_ev (a b : List Bool) (ha : a.length ≤ 1048576) (hb : b.length ≤ 1048576) : Ev (fun k => laws_toBits.f k a b) (a, b) := by
  unfold laws_toBits.f
  exact Ev.bind (laws_toBoolS_ev a ha) (Ev.bind (laws_toBoolS_ev b hb) (Ev.now _))
theorem eqBits_ev (a b : List Bool) (ha : a.length ≤ 1048576) (hb : b.length ≤ 1048576) : Ev (fun k => laws_eqBits.f k a b a b) true := by
  unfold laws_eqBits.f
  exact Ev.bind (laws_eqBoolS_refl a ha) (Ev.bind (laws_eqBoolS_refl b hb) (Ev.now _))
theorem FnExactBitsOk : laws_FnExactBitsOk.Pure := by
  intro a b hg
  obtain ⟨⟨ha, _⟩, hb, _⟩ := hg
  simp only at ha hb
  have fin : ∀ v, Ev (fun k => laws_FnExactBitsOk.f k a b) v → v = true → ∃ k, laws_FnExactBitsOk.f k a b = some true := fun v h e => by
    rw [← e]; exact h.rounds
  unfold laws_FnExactBitsOk.f laws_szBits.f at *
  rw [laws_szBoolS_eq a 1048576 (by omega) (by omega) (by omega)] at *
  by_cases h1 : (1048576 : Int) - a.length < 0
  · exact ⟨0, by simp [h1]⟩
  · rw [if_neg h1] at *
    simp only [Option.bind_some] at *
    rw [if_neg h1, laws_szBoolS_eq b _ (by omega) (by omega) (by omega)] at *
    by_cases h2 : (1048576 : Int) - a.length - b.length < 0
    · exact ⟨0, by simp [h2]⟩
    · rw [if_neg h2] at *
      simp only [Option.bind_some] at *
      rw [if_neg h2] at *
      simp only [Option.bind_some] at *
      simp only [if_neg h2] at *
      refine fin true (Ev.bind (toBits_ev a b (by omega) (by omega)) ?_) rfl
      have hs : impl_BitsOk.f a b = spec_BitsOk.f a b := rfl
      obtain ⟨r, hr⟩ : ∃ r, spec_BitsOk.f a b = some r := by unfold spec_BitsOk.f; split <;> exact ⟨_, rfl⟩
      simp only [hs, hr, Option.bind_some]
      refine Ev.bind (toBits_ev a b (by omega) (by omega)) ?_
      simp only [hs, hr, Option.bind_some, bne_self_eq_false]
      refine Ev.bind (toBits_ev a b (by omega) (by omega)) ?_
      exact Ev.bind (eqBits_ev a b (by omega) (by omega)) (Ev.now _)
end Go.Proofs.Ytnnjfjomaeleoaa.Pure
