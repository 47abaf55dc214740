/- FnExactDecimal: for every int the program's Decimal answers what the reference's does; the listed tables start as the program's text lays them. -/
import Derived.Test.YtmkcpkhhlbmgcaaDoorPFnsx1
import Derived.Test.YtmkcpkhhlbmgcaaDoorAid
import Derived.Lib.ItoaNum
import Derived.Lib.AtoiAll
namespace Go.Proofs.YtmkcpkhhlbmgcaaDoor.Pure
open Go Go.RowKit Go.Proofs.YtmkcpkhhlbmgcaaDoor.PFns Go.Proofs.YtmkcpkhhlbmgcaaDoorW.PrintWords Go.Proofs.YtmkcpkhhlbmgcaaDoorW.PrintLast Go.Proofs.YtmkcpkhhlbmgcaaDoorW.PrintMore Go.Proofs.YtmkcpkhhlbmgcaaDoor.Aid
set_option linter.unusedVariables false
set_option linter.unusedSimpArgs false

/-- A number's decimal digits as a text. -/
def DD (u : Nat) : ByteArray := ⟨(Lib.decDigits u).toArray⟩
/-- A number's decimal text. -/
def DT (n : Int) : ByteArray := ⟨(Lib.itoa n).toArray⟩
theorem DD_list (u : Nat) : (DD u).data.toList = Lib.decDigits u := by simp [DD]
theorem data_inj {a b : ByteArray} (h : a.data.toList = b.data.toList) : a = b := toList_inj (by rw [Go.Lib.toList_data, Go.Lib.toList_data, h])
theorem app_data' (a b : ByteArray) : (a ++ b).data.toList = a.data.toList ++ b.data.toList := by rw [ByteArray.data_append, Array.toList_append]
theorem DD_big (u : Nat) (h : ¬ u < 10) : DD u = DD (u / 10) ++ strOfNums [((48 + u % 10 : Nat) : Int)] := by
  apply data_inj
  rw [app_data', DD_list, DD_list, strOfNums_data]
  conv => lhs; unfold Lib.decDigits
  rw [dif_neg h]
  rfl
theorem DD_small (u : Nat) (h : u < 10) : DD u = strOfNums [((48 + u : Nat) : Int)] := by
  apply data_inj
  rw [DD_list, strOfNums_data]
  unfold Lib.decDigits
  rw [dif_pos h]
  rfl
theorem app_assoc' (a b c : ByteArray) : a ++ b ++ c = a ++ (b ++ c) := by
  apply data_inj
  rw [app_data', app_data', app_data', app_data', List.append_assoc]
theorem figure_eq (d : Nat) (h : d < 10) : spec_l01Figure.f (d : Int) = some ((48 + d : Nat) : Int) := by
  unfold spec_l01Figure.f
  rw [if_pos (by omega), w64 (by omega) (by omega)]
  congr 1
  omega
theorem dec_loop (d : Nat) : ∀ (x : Int) (b : Bool) (s : ByteArray), x ≠ 0 → x.natAbs < 10 ^ d → -9223372036854775808 ≤ x → x ≤ 9223372036854775807 → s.size + d ≤ 1000 → Ev (fun k => spec_Decimal.l0 k x b s) (if b = true then (⟨#[45]⟩ : ByteArray) ++ (DD x.natAbs ++ s) else DD x.natAbs ++ s) := by
  induction d with
  | zero => intro x b s hx hd; simp at hd; exact absurd hd hx
  | succ d ih =>
    intro x b s hx hd h0 h1 hs
    have hq : x.natAbs % 10 < 10 := Nat.mod_lt _ (by decide)
    have ht : wrap64 (Int.tdiv x 10) = Int.tdiv x 10 ∧ (Int.tdiv x 10).natAbs = x.natAbs / 10 ∧ -9223372036854775808 ≤ Int.tdiv x 10 ∧ Int.tdiv x 10 ≤ 9223372036854775807 := by
      by_cases hn : 0 ≤ x
      · rw [tdiv_nn hn]
        refine ⟨w64 (by omega) (by omega), by omega, by omega, by omega⟩
      · have e : Int.tdiv x 10 = -((-x) / 10) := by
          have := Int.neg_tdiv (-x) 10
          rw [Int.neg_neg] at this
          rw [this, tdiv_nn (by omega)]
        rw [e]
        refine ⟨w64 (by omega) (by omega), by omega, by omega, by omega⟩
    obtain ⟨hw, hab, t0, t1⟩ := ht
    have hsz : (strOfNums [((48 + x.natAbs % 10 : Nat) : Int)]).size = 1 := by rw [strOfNums_size]; rfl
    have key : ∀ k, spec_Decimal.l0 (k + 1) x b s = spec_Decimal.l0 k (Int.tdiv x 10) b (strOfNums [((48 + x.natAbs % 10 : Nat) : Int)] ++ s) := fun k => by
      simp only [spec_Decimal.l0, hw]
      rw [if_neg hx]
      by_cases hn : 0 ≤ x
      · have e : Int.tmod x 10 = ((x.natAbs % 10 : Nat) : Int) := by rw [tmod_nn hn]; omega
        rw [e, if_neg (by omega), figure_eq _ hq]
        simp only [Option.bind_some]
        rw [if_pos (by omega)]
      · have e : Int.tmod x 10 = -((x.natAbs % 10 : Nat) : Int) := by
          have := Int.neg_tmod (-x) 10
          rw [Int.neg_neg] at this
          rw [this, tmod_nn (by omega)]
          omega
        rw [e, Int.neg_neg, w64 (by omega) (by omega), figure_eq _ hq]
        simp only [Option.bind_some]
        rw [if_pos (show (strOfNums [((48 + x.natAbs % 10 : Nat) : Int)]).size + s.size ≤ 9223372036854775807 by omega)]
        by_cases hz : x.natAbs % 10 = 0
        · rw [if_neg (by omega), show -((x.natAbs % 10 : Nat) : Int) = ((0 : Nat) : Int) by omega, figure_eq 0 (by omega), hz]
          simp only [Option.bind_some]
          rw [if_pos (by have : (strOfNums [((48 + 0 : Nat) : Int)]).size = 1 := (by rw [strOfNums_size]; rfl); omega)]
        · rw [if_pos (by omega)]
    by_cases hz : Int.tdiv x 10 = 0
    · have hlt : x.natAbs < 10 := by rw [hz] at hab; simp at hab; omega
      have e : DD x.natAbs = strOfNums [((48 + x.natAbs % 10 : Nat) : Int)] := by
        rw [DD_small _ hlt, show x.natAbs % 10 = x.natAbs by omega]
      rw [e]
      refine Ev.step key (Ev.last fun k => ?_)
      simp only [spec_Decimal.l0, hz, if_true]
      by_cases hb : b = true
      · rw [if_pos hb, if_pos hb, if_pos (by rw [ByteArray.size_append]; omega)]
      · rw [if_neg hb, if_neg hb]
    · have hbig : ¬ x.natAbs < 10 := fun hlt => hz (by omega)
      have hi := ih (Int.tdiv x 10) b (strOfNums [((48 + x.natAbs % 10 : Nat) : Int)] ++ s) hz (by rw [hab]; rw [Nat.pow_succ] at hd; omega) t0 t1 (by rw [ByteArray.size_append]; omega)
      have e2 : DD (x.natAbs / 10) ++ (strOfNums [((48 + x.natAbs % 10 : Nat) : Int)] ++ s) = DD x.natAbs ++ s := by rw [← app_assoc', ← DD_big _ hbig]
      rw [hab, e2] at hi
      exact Ev.step key hi
theorem dec_ev (n : Int) (h0 : -9223372036854775808 ≤ n) (h1 : n ≤ 9223372036854775807) : Ev (fun k => spec_Decimal.f k n) (DT n) := by
  unfold spec_Decimal.f
  by_cases hz : n = 0
  · subst hz
    have e : DT 0 = ⟨#[48]⟩ := by
      apply data_inj
      show (Lib.itoa 0).toArray.toList = _
      have : Lib.itoa 0 = [48] := by
        unfold Lib.itoa
        rw [if_neg (by decide)]
        unfold Lib.decDigits
        rw [dif_pos (by decide)]
        rfl
      rw [this]
    rw [e]
    exact Ev.now' fun _ => by rw [if_pos rfl]
  · have hd : n.natAbs < 10 ^ 20 := by
      have : (10 : Nat) ^ 20 = 100000000000000000000 := by decide
      omega
    have h := dec_loop 20 n (decide (n < 0)) ⟨#[]⟩ hz hd h0 h1 (by decide)
    have e : (if decide (n < 0) = true then (⟨#[45]⟩ : ByteArray) ++ (DD n.natAbs ++ ⟨#[]⟩) else DD n.natAbs ++ ⟨#[]⟩) = DT n := by
      have e0 : DD n.natAbs ++ (⟨#[]⟩ : ByteArray) = DD n.natAbs := by
        apply data_inj
        rw [app_data']
        simp
      rw [e0]
      by_cases hn : n < 0
      · rw [if_pos (decide_eq_true hn)]
        apply data_inj
        rw [app_data', DD_list]
        show _ = (Lib.itoa n).toArray.toList
        unfold Lib.itoa
        rw [if_pos hn]
        rfl
      · rw [if_neg (by simp [hn])]
        apply data_inj
        rw [DD_list]
        show _ = (Lib.itoa n).toArray.toList
        unfold Lib.itoa
        rw [if_neg hn, show n.natAbs = n.toNat by omega]
    rw [e] at h
    exact Ev.congr (fun k => by rw [if_neg hz]) h
end Go.Proofs.YtmkcpkhhlbmgcaaDoor.Pure
