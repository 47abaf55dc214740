/- FnExactHex: for every text the program's Hex answers what the reference's does; no condition. -/
import Derived.Test.YtlknhideolaefaaPFnExactHexx1
import Derived.Test.YtlknhideolaefaaAid
namespace Go.Proofs.Ytlknhideolaefaa.Pure
open Go.RowKit Go.Proofs.Ytlknhideolaefaa.PFnExactHex Go.Proofs.YtlknhideolaefaaW.PrintWords Go.Proofs.YtlknhideolaefaaW.PrintLast Go.Proofs.YtlknhideolaefaaW.PrintMore Go.Proofs.Ytlknhideolaefaa.Aid
set_option linter.unusedVariables false
set_option linter.unusedSimpArgs false

/-- A figure's byte. -/
def fig (d : Int) : Int := if d < 10 then 48 + d else 87 + d
theorem figure_eq (d : Int) (h0 : 0 ≤ d) (h1 : d < 16) : spec_l01Figure.f d = some (fig d) := by
  unfold spec_l01Figure.f fig
  by_cases h : d < 10
  · rw [if_pos h, if_pos h, w64 (by omega) (by omega)]
    congr 1
    omega
  · rw [if_neg h, if_neg h, w64 (x := 97 + d) (by omega) (by omega), w64 (by omega) (by omega)]
    congr 1
    omega
theorem table_eq (d : Int) (h0 : 0 ≤ d) (h1 : d < 16) : bt (⟨#[48, 49, 50, 51, 52, 53, 54, 55, 56, 57, 97, 98, 99, 100, 101, 102]⟩ : ByteArray) d = fig d := by
  have key : ∀ n : Fin 16, bt (⟨#[48, 49, 50, 51, 52, 53, 54, 55, 56, 57, 97, 98, 99, 100, 101, 102]⟩ : ByteArray) ((n.val : Nat) : Int) = fig ((n.val : Nat) : Int) := by decide +kernel
  have := key ⟨d.toNat, by omega⟩
  rwa [Int.toNat_of_nonneg h0] at this
/-- The figures of the bytes from i on. -/
def hexOf (s : ByteArray) : Nat → Nat → List Int
  | _, 0 => []
  | i, m + 1 => fig (bt s (i : Int) / 16) :: fig (bt s (i : Int) % 16) :: hexOf s (i + 1) m
theorem hexOf_length (s : ByteArray) (m : Nat) : ∀ i, (hexOf s i m).length = 2 * m := by
  induction m with
  | zero => intro i; rfl
  | succ m ih => intro i; simp only [hexOf, List.length_cons, ih]; omega
theorem hex_loops (s : ByteArray) (hs : s.size ≤ 20000) (m : Nat) : ∀ (l : List Int) (i : Nat), i + m = s.size → l.length = 2 * i → Ev (fun k => spec_Hex.l0 k s l (i : Int)) (strOfNums (l ++ hexOf s i m), true) ∧ Ev (fun k => impl_Hex.l0 k s l (i : Int)) (strOfNums (l ++ hexOf s i m), true) := by
  induction m with
  | zero =>
    intro l i hi hl
    simp only [hexOf, List.append_nil]
    exact ⟨Ev.last (fun k => by simp only [spec_Hex.l0]; rw [if_neg (by omega)]), Ev.last (fun k => by simp only [impl_Hex.l0]; rw [if_neg (by omega)])⟩
  | succ m ih =>
    intro l i hi hl
    have hb := bt_range s (i : Int)
    have hw : wrap64 ((i : Int) + 1) = ((i + 1 : Nat) : Int) := by rw [w64 (by omega) (by omega)]; omega
    obtain ⟨h1, h2⟩ := ih (l ++ [fig (bt s (i : Int) / 16), fig (bt s (i : Int) % 16)]) (i + 1) (by omega) (by simp; omega)
    have e : l ++ hexOf s i (m + 1) = l ++ [fig (bt s (i : Int) / 16), fig (bt s (i : Int) % 16)] ++ hexOf s (i + 1) m := by simp [hexOf]
    have hwb : wrap64 (bt s (i : Int)) = bt s (i : Int) := w64 (by omega) (by omega)
    rw [e]
    refine ⟨Ev.step (fun k => ?_) h1, Ev.step (fun k => ?_) h2⟩
    · simp only [spec_Hex.l0]
      rw [if_pos (by omega), if_pos (by omega), hwb, tdiv_nn hb.1, tmod_nn hb.1, w64 (x := bt s (i : Int) / 16) (by omega) (by omega), figure_eq _ (by omega) (by omega), figure_eq _ (by omega) (by omega), hw]
      simp only [Option.bind_some]
      rw [if_pos (by simp; omega)]
    · simp only [impl_Hex.l0]
      rw [if_pos (by omega), if_pos (by omega), tdiv_nn hb.1, tmod_nn hb.1, show bt s (i : Int) / 16 % 256 = bt s (i : Int) / 16 by omega, if_pos (by omega), if_pos (by omega), if_pos (by omega), if_pos (by omega), table_eq _ (by omega) (by omega), table_eq _ (by omega) (by omega), hw]
      simp only [Option.bind_some]
      rw [if_pos (by simp; omega)]
theorem hex_ev (s : ByteArray) (hs : s.size ≤ 20000) : Ev (fun k => spec_Hex.f k s) (strOfNums (hexOf s 0 s.size), true) ∧ Ev (fun k => impl_Hex.f k s) (strOfNums (hexOf s 0 s.size), true) := by
  obtain ⟨h1, h2⟩ := hex_loops s hs s.size [] 0 (by omega) (by simp)
  unfold spec_Hex.f impl_Hex.f
  simp only [if_neg (show ¬ (s.size : Int) > 20000 by omega)]
  exact ⟨h1, h2⟩

theorem FnExactHex : laws_FnExactHex.Pure := by
  intro s hs
  unfold laws_FnExactHex.f
  by_cases h : (s.size : Int) > 1048576
  · exact ⟨0, by rw [if_pos h]⟩
  · simp only [if_neg h]
    by_cases h2 : (s.size : Int) > 20000
    · refine ⟨0, ?_⟩
      unfold spec_Hex.f impl_Hex.f
      rw [if_pos h2, if_pos h2]
      simp
    · obtain ⟨h3, h4⟩ := hex_ev s (by omega)
      refine Ev.rounds (Ev.bind h3 (Ev.bind h4 (Ev.now' fun _ => ?_)))
      simp
end Go.Proofs.Ytlknhideolaefaa.Pure
