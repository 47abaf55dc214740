/- FnExactSealed: for every text the program's Sealed answers what the reference's does; no condition. -/
import Derived.Test.YtnnjfjomaeleoaaPFnExactSealedx1
import Derived.Test.YtnnjfjomaeleoaaAid
namespace Go.Proofs.Ytnnjfjomaeleoaa.Pure
open Go.RowKit Go.Proofs.Ytnnjfjomaeleoaa.PFnExactSealed Go.Proofs.YtnnjfjomaeleoaaW.PrintWords Go.Proofs.YtnnjfjomaeleoaaW.PrintLast Go.Proofs.YtnnjfjomaeleoaaW.PrintMore Go.Proofs.Ytnnjfjomaeleoaa.Aid
set_option linter.unusedVariables false
set_option linter.unusedSimpArgs false

theorem sum_same (k : Nat) : (∀ x s i, impl_SumMore.l0 k x s i = spec_SumMore.l0 k x s i) ∧ (∀ x s i j, impl_SumMore.l1 k x s i j = spec_SumMore.l1 k x s i j) := by
  induction k with
  | zero => exact ⟨fun _ _ _ => rfl, fun _ _ _ _ => rfl⟩
  | succ k ih =>
    refine ⟨fun x s i => ?_, fun x s i j => ?_⟩
    · simp only [impl_SumMore.l0, spec_SumMore.l0, ih.2]
    · simp only [impl_SumMore.l1, spec_SumMore.l1, ih.1, ih.2]

theorem xor_range (x y : Int) : 0 ≤ Go.bits .xor .u32 x y ∧ Go.bits .xor .u32 x y < 4294967296 := by
  have h : Go.bits .xor .u32 x y = IntKind.u32.wrap ((BitVec.ofInt 32 x ^^^ BitVec.ofInt 32 y).toNat : Nat) := rfl
  rw [h, IntKind.wrap_u32]
  omega

theorem sum_bits (s : ByteArray) (i : Int) (next : Nat → Int → Option Int) (hn : ∀ x, 0 ≤ x → x < 4294967296 → ∃ r, Ev (fun k => next k x) r ∧ 0 ≤ r ∧ r < 4294967296) (hnext : ∀ k x, next k x = spec_SumMore.l0 k x s (wrap64 (i + 1))) (d : Nat) :
    ∀ (x j : Int), 0 ≤ x → x < 4294967296 → 0 ≤ j → j ≤ 8 → 8 - j = d → ∃ r, Ev (fun k => spec_SumMore.l1 k x s i j) r ∧ 0 ≤ r ∧ r < 4294967296 := by
  induction d with
  | zero =>
    intro x j x0 x1 h0 h1 hd
    obtain ⟨r, hr, hr'⟩ := hn x x0 x1
    exact ⟨r, Ev.step (f := fun k => next k x) (fun k => by simp only [spec_SumMore.l1]; rw [if_neg (by omega), hnext]) hr, hr'⟩
  | succ d ih =>
    intro x j x0 x1 h0 h1 hd
    have hw : wrap64 (j + 1) = j + 1 := w64 (by omega) (by omega)
    by_cases ho : Int.tmod x 2 = 1
    · obtain ⟨r, hr, hr'⟩ := ih (Go.bits .xor .u32 ((Int.tdiv x 2) % 4294967296) 3558460437) (j + 1) (xor_range _ _).1 (xor_range _ _).2 (by omega) (by omega) (by omega)
      exact ⟨r, Ev.step (fun k => by simp only [spec_SumMore.l1]; rw [if_pos (by omega), if_pos ho, hw]) hr, hr'⟩
    · obtain ⟨r, hr, hr'⟩ := ih ((Int.tdiv x 2) % 4294967296) (j + 1) (by omega) (by omega) (by omega) (by omega) (by omega)
      exact ⟨r, Ev.step (fun k => by simp only [spec_SumMore.l1]; rw [if_pos (by omega), if_neg ho, hw]) hr, hr'⟩
theorem sum_ends (s : ByteArray) (hs : s.size ≤ 140737488351232) (d : Nat) : ∀ (x i : Int), 0 ≤ x → x < 4294967296 → 0 ≤ i → i ≤ s.size → (s.size : Int) - i = d → ∃ r, Ev (fun k => spec_SumMore.l0 k x s i) r ∧ 0 ≤ r ∧ r < 4294967296 := by
  induction d with
  | zero =>
    intro x i x0 x1 h0 h1 hd
    exact ⟨x, Ev.last (fun k => by simp only [spec_SumMore.l0]; rw [if_neg (by omega)]), x0, x1⟩
  | succ d ih =>
    intro x i x0 x1 h0 h1 hd
    have hw : wrap64 (i + 1) = i + 1 := w64 (by omega) (by omega)
    obtain ⟨r, hr, hr'⟩ := sum_bits s i (fun k x => spec_SumMore.l0 k x s (i + 1)) (fun x x0 x1 => ih x (i + 1) x0 x1 (by omega) (by omega) (by omega)) (fun k x => by rw [hw]) 8 (Go.bits .xor .u32 x ((bt s i) % 4294967296)) 0 (xor_range _ _).1 (xor_range _ _).2 (by omega) (by omega) (by omega)
    exact ⟨r, Ev.step (fun k => by simp only [spec_SumMore.l0]; rw [if_pos (by omega), if_pos h0]) hr, hr'⟩

theorem sumof_ev (s : ByteArray) (hs : s.size ≤ 140737488351232) : ∃ r, Ev (fun k => spec_SumOf.f k s) r ∧ Ev (fun k => impl_SumOf.f k s) r ∧ 0 ≤ r ∧ r < 4294967296 := by
  obtain ⟨r, hr, h0, h1⟩ := sum_ends s hs s.size 4294967295 0 (by omega) (by omega) (by omega) (by omega) (by omega)
  refine ⟨r, ?_, ?_, h0, h1⟩
  · unfold spec_SumOf.f spec_SumMore.f
    exact Ev.bind hr (Ev.now r)
  · unfold impl_SumOf.f impl_SumMore.f
    simp only [(sum_same _).1]
    exact Ev.bind hr (Ev.now r)

/-- The four bytes of a sum, the highest first. -/
def four (x : Int) : ByteArray := strOfNums [(x / 16777216) % 256, (x / 65536) % 256, (x / 256) % 256, x % 256]
theorem four_size (x : Int) : (four x).size = 4 := rfl

theorem high_ev (x : Int) (h0 : 0 ≤ x) (h1 : x < 4294967296) : Ev (fun k => impl_highFirst.f k x 4) (four x) := by
  refine Ev.at_ 5 (fun k hk => ?_)
  obtain ⟨k, rfl⟩ : ∃ m, k = m + 5 := ⟨k - 5, by omega⟩
  unfold impl_highFirst.f
  rw [if_pos (by omega), if_pos (by decide), show wrap64 (4 - 1) = 3 by decide +kernel, show List.replicate (4 : Int).toNat (0 : Int) = [0, 0, 0, 0] from rfl]
  simp only [impl_highFirst.l0]
  simp only [show wrap64 (3 - 1) = 2 by decide +kernel, show wrap64 (2 - 1) = 1 by decide +kernel, show wrap64 (1 - 1) = 0 by decide +kernel, show wrap64 (0 - 1) = -1 by decide +kernel]
  simp only [and255]
  simp only [show Int.toNat 3 = 3 from rfl, show Int.toNat 2 = 2 from rfl, show Int.toNat 1 = 1 from rfl, show Int.toNat 0 = 0 from rfl, List.set_cons_succ, List.set_cons_zero, List.length_cons, List.length_nil]
  rw [if_pos (by omega), if_pos (by omega), if_pos (by omega), if_pos (by omega), if_pos (by omega), if_pos (by omega), if_pos (by omega), if_pos (by omega), if_pos (by omega), if_pos (by omega), if_pos (by omega), if_pos (by omega), if_neg (by omega)]
  unfold four
  congr 2
  simp only [List.cons.injEq, and_true]
  omega

theorem sealed_ev (s : ByteArray) (hs : s.size ≤ 20000) (r : Int) (h2 : Ev (fun k => impl_SumOf.f k s) r) (r0 : 0 ≤ r) (r1 : r < 4294967296) : Ev (fun k => impl_Sealed.f k s) (s ++ four r, true) := by
  unfold impl_Sealed.f
  refine Ev.congr (f := fun k => (impl_SumOf.f k s).bind fun t => (impl_highFirst.f k (wrap64 t) 4).bind fun u => if s.size + u.size ≤ 9223372036854775807 then some (s ++ u, true) else none) (fun k => by rw [if_neg (by omega)]) ?_
  refine Ev.bind h2 ?_
  rw [w64 (by omega) (by omega)]
  exact Ev.bind (high_ev r r0 r1) (Ev.now' fun k => by rw [four_size, if_pos (by omega)])

theorem FnExactSealed : laws_FnExactSealed.Pure := by
  intro s hs
  by_cases h : (s.size : Int) > 20000
  · refine ⟨0, ?_⟩
    unfold laws_FnExactSealed.f spec_Sealed.f impl_Sealed.f
    by_cases h' : (s.size : Int) > 1048576
    · rw [if_pos h']
    · rw [if_neg h', if_pos h, if_pos h]
      simp
  · obtain ⟨r, h1, h2, r0, r1⟩ := sumof_ev s hs
    have h3 := sealed_ev s (by omega) r h2 r0 r1
    obtain ⟨k, hk1, hk3⟩ : ∃ k, spec_SumOf.f k s = some r ∧ impl_Sealed.f k s = some (s ++ four r, true) := by
      obtain ⟨K1, h1⟩ := h1
      obtain ⟨K3, h3⟩ := h3
      exact ⟨max K1 K3, h1 _ (by omega), h3 _ (by omega)⟩
    refine ⟨k, ?_⟩
    unfold laws_FnExactSealed.f spec_Sealed.f
    rw [if_neg (by omega), if_neg h, hk1, hk3]
    have e : spec_l02Four.f r = some (four r) := rfl
    simp only [Option.bind_some, e]
    rw [if_pos (by rw [four_size]; omega)]
    simp
end Go.Proofs.Ytnnjfjomaeleoaa.Pure
