/- FnInodes: for every draw, a drawn right inode comes back from its bytes, and drawn bytes that are an inode's are the bytes of that inode; no condition. -/
import Derived.Test.YtfkjjehkngmgaaaPFnInodesx8
import Derived.Test.YtfkjjehkngmgaaaAid
namespace Go.Proofs.Ytfkjjehkngmgaaa.Pure
open Go.RowKit Go.Proofs.Ytfkjjehkngmgaaa.PFnInodes Go.Proofs.YtfkjjehkngmgaaaW.PrintWords Go.Proofs.YtfkjjehkngmgaaaW.PrintLast Go.Proofs.YtfkjjehkngmgaaaW.PrintMore Go.Proofs.Ytfkjjehkngmgaaa.Aid
set_option linter.unusedVariables false
set_option linter.unusedSimpArgs false

theorem big_eq (l : List Int) : laws_big.f l = some (decide ((l.length : Int) > 1048576)) := rfl

theorem new_ends (s : List Int) (hs : s.length ≤ 140737488351232) (d : Nat) : ∀ (h i : Int), 0 ≤ i → i ≤ s.length → (s.length : Int) - i = d → ∃ h', Ev (fun k => spec_l01New.l0 k s h i) (s, 0, h') := by
  induction d with
  | zero =>
    intro h i h0 h1 hd
    exact ⟨h, Ev.last (fun k => by simp only [spec_l01New.l0]; rw [if_neg (by omega)])⟩
  | succ d ih =>
    intro h i h0 h1 hd
    by_cases hf : i < 4000
    · obtain ⟨h', hr⟩ := ih (Go.bits .and .i64 (wrap64 ((wrap64 ((wrap64 (h * 131)) + (wrap64 (rd s i)))) + 7)) 1073741823) (i + 1) (by omega) (by omega) (by omega)
      exact ⟨h', Ev.step (fun k => by simp only [spec_l01New.l0]; rw [if_pos (by omega), if_pos hf, if_pos h0, w64 (x := i + 1) (by omega) (by omega)]) hr⟩
    · exact ⟨h, Ev.last (fun k => by simp only [spec_l01New.l0]; rw [if_pos (by omega), if_neg hf])⟩
theorem new_ev (s : List Int) (hs : s.length ≤ 140737488351232) : ∃ h, Ev (fun k => spec_l01New.f k s) (s, 0, h) := by
  obtain ⟨h, hr⟩ := new_ends s hs s.length (wrap64 (37701 + (s.length : Int))) 0 (by omega) (by omega) (by omega)
  exact ⟨h, hr⟩

theorem byte_some (s : List Int) (hs : s.length ≤ 140737488351232) (i h : Int) (h0 : 0 ≤ i) (h1 : i ≤ s.length) : ∃ b i' h', spec_l01Byte.f s i h = some (b, i', h') ∧ 0 ≤ b ∧ b ≤ 255 ∧ 0 ≤ i' ∧ i' ≤ s.length := by
  unfold spec_l01Byte.f
  by_cases hi : i < (s.length : Int)
  · rw [if_pos hi, if_pos h0, w64 (x := i + 1) (by omega) (by omega), and255]
    exact ⟨_, _, _, rfl, by omega, by omega, by omega, by omega⟩
  · rw [if_neg hi, and255]
    exact ⟨_, _, _, rfl, by omega, by omega, by omega, by omega⟩

theorem below_some (s : List Int) (hs : s.length ≤ 140737488351232) (i h n : Int) (h0 : 0 ≤ i) (h1 : i ≤ s.length) : ∃ r i' h', spec_l01Below.f s i h n = some (r, i', h') ∧ 0 ≤ i' ∧ i' ≤ s.length ∧ 0 ≤ r ∧ (n ≤ 0 → r = 0) ∧ (0 < n → r < n) := by
  unfold spec_l01Below.f
  by_cases hn : n ≤ 0
  · rw [if_pos hn]
    exact ⟨_, _, _, rfl, h0, h1, by omega, fun _ => rfl, fun h => by omega⟩
  · rw [if_neg hn]
    by_cases hm : n ≤ 256
    · rw [if_pos hm]
      obtain ⟨b, i1, h1', e, b0, b1, c0, c1⟩ := byte_some s hs i h h0 h1
      rw [e]
      simp only [Option.bind_some]
      rw [if_neg (by omega), tmod_nn b0]
      have p0 := Int.emod_nonneg b (show n ≠ 0 by omega)
      have p1 := Int.emod_lt_of_pos b (show 0 < n by omega)
      exact ⟨_, _, _, rfl, c0, c1, p0, fun h => by omega, fun _ => p1⟩
    · rw [if_neg hm]
      obtain ⟨a, i1, g1, e1, a0, a1, c0, c1⟩ := byte_some s hs i h h0 h1
      rw [e1]
      simp only [Option.bind_some]
      obtain ⟨b, i2, g2, e2, b0, b1, d0, d1⟩ := byte_some s hs i1 g1 c0 c1
      rw [e2]
      simp only [Option.bind_some]
      obtain ⟨c, i3, g3, e3, k0, k1, f0, f1⟩ := byte_some s hs i2 g2 d0 d1
      rw [e3]
      simp only [Option.bind_some]
      obtain ⟨d, i4, g4, e4, l0, l1, m0, m1⟩ := byte_some s hs i3 g3 f0 f1
      rw [e4]
      simp only [Option.bind_some]
      rw [if_neg (by omega), w64 (x := a * 16777216) (by omega) (by omega), w64 (x := b * 65536) (by omega) (by omega), w64 (x := c * 256) (by omega) (by omega), w64 (x := a * 16777216 + b * 65536) (by omega) (by omega),
        w64 (x := a * 16777216 + b * 65536 + c * 256) (by omega) (by omega), w64 (x := a * 16777216 + b * 65536 + c * 256 + d) (by omega) (by omega), tmod_nn (by omega)]
      have p0 := Int.emod_nonneg (a * 16777216 + b * 65536 + c * 256 + d) (show n ≠ 0 by omega)
      have p1 := Int.emod_lt_of_pos (a * 16777216 + b * 65536 + c * 256 + d) (show 0 < n by omega)
      exact ⟨_, _, _, rfl, m0, m1, p0, fun h => by omega, fun _ => p1⟩

theorem once_some (s : List Int) (hs : s.length ≤ 140737488351232) (i h n : Int) (h0 : 0 ≤ i) (h1 : i ≤ s.length) : ∃ b i' h', spec_l01Once.f s i h n = some (b, i', h') ∧ 0 ≤ i' ∧ i' ≤ s.length := by
  unfold spec_l01Once.f
  obtain ⟨r, i1, g1, e, c0, c1, _⟩ := below_some s hs i h n h0 h1
  rw [e]
  exact ⟨_, _, _, rfl, c0, c1⟩

theorem pickint_some (s : List Int) (hs : s.length ≤ 140737488351232) (i h : Int) (l : List Int) (hl : 0 < l.length) (h0 : 0 ≤ i) (h1 : i ≤ s.length) : ∃ r i' h', spec_l01PickInt.f s i h l = some (r, i', h') ∧ r ∈ l ∧ 0 ≤ i' ∧ i' ≤ s.length := by
  obtain ⟨r, i', h', e, i0, i1, r0, _, r1⟩ := below_some s hs i h (l.length : Int) h0 h1
  have hr := r1 (by omega)
  refine ⟨rd l r, i', h', ?_, rd_mem r0 hr, i0, i1⟩
  unfold spec_l01PickInt.f
  rw [e]
  simp only [Option.bind_some]
  rw [if_pos r0, if_pos hr]

/-- What l03Any draws: small numbers, at most two places. -/
def DIn (p : List Int) : Prop := p.length ≤ 2
theorem l03inode_some (s : List Int) (hs : s.length ≤ 140737488351232) (i h : Int) (h0 : 0 ≤ i) (h1 : i ≤ s.length) : ∃ a b p i' h', spec_l03Inode.f s i h = some (a, b, p, i', h') ∧ p.length = 2 ∧ 0 ≤ i' ∧ i' ≤ s.length := by
  obtain ⟨x, i1, g1, e1, _, a0, a1⟩ := pickint_some s hs i h [0, 1, 2] (by decide) h0 h1
  have hnew : spec_InodeNew.f x = some (x, (if x = 0 then 0 else 1), [0, 0]) := by
    unfold spec_InodeNew.f
    by_cases hx : x = 0
    · simp [hx]
    · simp [hx]
  unfold spec_l03Inode.f
  simp only [e1, Option.bind_some, hnew]
  by_cases hx : x = 0
  · exact ⟨x, (if x = 0 then 0 else 1), [0, 0], i1, g1, by rw [if_pos hx], rfl, a0, a1⟩
  · obtain ⟨l, i2, g2, e2, b0, b1, _⟩ := below_some s hs i1 g1 4 a0 a1
    obtain ⟨p, i3, g3, e3, c0, c1, _⟩ := below_some s hs i2 g2 17 b0 b1
    obtain ⟨q, i4, g4, e4, d0, d1, _⟩ := below_some s hs i3 g3 17 c0 c1
    obtain ⟨r, i5, g5, e5, _, f0, f1⟩ := pickint_some s hs i4 g4 [0, 0, q] (by simp) d0 d1
    refine ⟨x, l, [p, r], i5, g5, ?_, rfl, f0, f1⟩
    simp only [if_neg hx, e2, Option.bind_some, e3, e4, e5]
    rfl
theorem l03any_some (s : List Int) (hs : s.length ≤ 140737488351232) (i h : Int) (h0 : 0 ≤ i) (h1 : i ≤ s.length) : ∃ a b p i' h', spec_l03Any.f s i h = some (a, b, p, i', h') ∧ p.length ≤ 2 ∧ 0 ≤ i' ∧ i' ≤ s.length := by
  obtain ⟨a, b, p, i1, g1, e1, hp, a0, a1⟩ := l03inode_some s hs i h h0 h1
  obtain ⟨c, i2, g2, e2, b0, b1, _⟩ := below_some s hs i1 g1 12 a0 a1
  unfold spec_l03Any.f
  simp only [e1, Option.bind_some, e2]
  by_cases k0 : c = 0
  · obtain ⟨x, i3, g3, e3, _, c0, c1⟩ := pickint_some s hs i2 g2 [(-1), 0, 3] (by decide) b0 b1
    exact ⟨x, b, p, i3, g3, by simp only [if_pos k0, e3, Option.bind_some], by omega, c0, c1⟩
  · by_cases k1 : c = 1
    · obtain ⟨x, i3, g3, e3, _, c0, c1⟩ := pickint_some s hs i2 g2 [(-1), 0, 200, 201] (by decide) b0 b1
      exact ⟨a, x, p, i3, g3, by simp only [if_neg k0, if_pos k1, e3, Option.bind_some], by omega, c0, c1⟩
    · by_cases k2 : c = 2
      · obtain ⟨x, i3, g3, e3, _, c0, c1⟩ := pickint_some s hs i2 g2 [(-1), 16, 17] (by decide) b0 b1
        exact ⟨a, b, p.set (0 : Int).toNat x, i3, g3, by simp only [if_neg k0, if_neg k1, if_pos k2, e3, Option.bind_some]; rw [if_pos (by omega)], by rw [List.length_set]; omega, c0, c1⟩
      · by_cases k3 : c = 3
        · exact ⟨a, b, p.drop (1 : Int).toNat, i2, g2, by simp only [if_neg k0, if_neg k1, if_neg k2, if_pos k3]; rw [if_pos (by omega)], by rw [List.length_drop]; omega, b0, b1⟩
        · exact ⟨a, b, p, i2, g2, by simp only [if_neg k0, if_neg k1, if_neg k2, if_neg k3], by omega, b0, b1⟩

theorem in_eq (a b c : Int) : spec_l01In.f a b c = some (decide (b ≤ a ∧ a ≤ c)) := by
  unfold spec_l01In.f
  by_cases h : a ≥ b
  · rw [if_pos h]
    simp [show b ≤ a from h]
  · rw [if_neg h]
    simp [show ¬ b ≤ a from h]

theorem within_eq (a b c : Int) : impl_within.f a b c = some (decide (b ≤ a ∧ a ≤ c)) := by
  unfold impl_within.f
  by_cases h : a ≥ b
  · rw [if_pos h]
    simp [show b ≤ a from h]
  · rw [if_neg h]
    simp [show ¬ b ≤ a from h]

/-- A right inode. -/
def IOk (k l : Int) (p : List Int) : Prop := 0 ≤ k ∧ k ≤ 2 ∧ 0 ≤ l ∧ l ≤ 200 ∧ p.length = 2 ∧ (∀ x ∈ p, 0 ≤ x ∧ x ≤ 16 ∧ (k = 0 → x = 0)) ∧ (k = 0 → l = 0)
instance (k l : Int) (p : List Int) : Decidable (IOk k l p) := by unfold IOk; infer_instance
theorem two_of {p : List Int} (h : p.length = 2) : ∃ a b, p = [a, b] := by
  match p, h with
  | [a, b], _ => exact ⟨a, b, rfl⟩
theorem spec_inodeok_two (k l a b : Int) : Ev (fun n => spec_InodeOk.l0 n 0 k l [a, b]) (decide ((0 ≤ a ∧ a ≤ 16 ∧ (k = 0 → a = 0)) ∧ (0 ≤ b ∧ b ≤ 16 ∧ (k = 0 → b = 0)) ∧ (k = 0 → l = 0))) := by
  refine Ev.at_ 4 (fun n hn => ?_)
  obtain ⟨n, rfl⟩ : ∃ m, n = m + 4 := ⟨n - 4, by omega⟩
  have r0 : rd [a, b] 0 = a := rfl
  have r1 : rd [a, b] 1 = b := rfl
  have w0 : wrap64 (0 + 1) = 1 := by decide +kernel
  have w1 : wrap64 (1 + 1) = 2 := by decide +kernel
  simp only [spec_InodeOk.l0, in_eq, Option.bind_some, r0, w0, r1, w1, decide_eq_true_eq]
  by_cases k0 : k = 0
  · subst k0
    by_cases h1 : 0 ≤ a ∧ a ≤ 16
    · by_cases h2 : a = 0
      · by_cases h3 : 0 ≤ b ∧ b ≤ 16
        · by_cases h4 : b = 0
          · by_cases h5 : l = 0
            · simp [h2, h4, h5]
            · simp [h2, h4, h5]
          · simp [h2, h3, h4]
        · simp [h2, h3]
          try omega
      · simp [h1, h2]
    · simp [h1]
      try omega
  · by_cases h1 : 0 ≤ a ∧ a ≤ 16
    · by_cases h3 : 0 ≤ b ∧ b ≤ 16
      · simp [k0, h1, h3]
      · simp [k0, h1, h3]
        try omega
    · simp [k0, h1]
      try omega
theorem spec_inodeok (k l : Int) (p : List Int) : Ev (fun n => spec_InodeOk.f n k l p) (decide (IOk k l p)) := by
  have no : ∀ {x0 x1 : Int} {x2 : List Int}, ¬ IOk k l p → Ev (fun n => spec_InodeOk.j0 n true x0 x1 x2) (decide (IOk k l p)) := fun h => Ev.last (fun n => by simp only [spec_InodeOk.j0]; rw [decide_eq_false h]; rfl)
  unfold spec_InodeOk.f
  simp only [in_eq, Option.bind_some, decide_eq_true_eq]
  by_cases h1 : 0 ≤ k ∧ k ≤ 2
  · by_cases h2 : 0 ≤ l ∧ l ≤ 200
    · simp only [if_pos h1, if_pos h2]
      by_cases h3 : p.length = 2
      · obtain ⟨a, b, rfl⟩ := two_of h3
        refine Ev.step (f := fun n => spec_InodeOk.l0 n 0 k l [a, b]) (fun n => by simp only [spec_InodeOk.j0]; rfl) ?_
        have e : decide (IOk k l [a, b]) = decide ((0 ≤ a ∧ a ≤ 16 ∧ (k = 0 → a = 0)) ∧ (0 ≤ b ∧ b ≤ 16 ∧ (k = 0 → b = 0)) ∧ (k = 0 → l = 0)) := by
          rw [decide_eq_decide]
          unfold IOk
          simp [h1, h2, and_assoc]
        rw [e]
        exact spec_inodeok_two k l a b
      · have hb : ((p.length : Int) != 2) = true := by rw [bne_iff_ne]; omega
        rw [hb]
        exact no (fun h => h3 h.2.2.2.2.1)
    · simp only [if_pos h1, if_neg h2]
      exact no (fun h => h2 ⟨h.2.2.1, h.2.2.2.1⟩)
  · simp only [if_neg h1]
    exact no (fun h => h1 ⟨h.1, h.2.1⟩)
theorem impl_inodeok_loop (k l : Int) (p : List Int) (hp : p.length ≤ 1048576) (d : Nat) : ∀ (i : Int), 0 ≤ i → i ≤ p.length → (p.length : Int) - i = d → (∀ j : Nat, (j : Int) < i → 0 ≤ p.getD j 0 ∧ p.getD j 0 ≤ 16 ∧ (k = 0 → p.getD j 0 = 0)) → Ev (fun n => impl_InodeOk.l0 n p (p.length : Int) i k l p) (decide (IOk k l p)) := by
  induction d with
  | zero =>
    intro i h0 h1 hd hall
    have hall' : ∀ x ∈ p, 0 ≤ x ∧ x ≤ 16 ∧ (k = 0 → x = 0) := fun x hx => by
      obtain ⟨j, hj, e⟩ := List.mem_iff_getElem.1 hx
      have := hall j (by omega)
      rw [List.getD_eq_getElem?_getD, List.getElem?_eq_getElem hj] at this
      rw [← e]
      exact this
    refine Ev.last (fun n => ?_)
    simp only [impl_InodeOk.l0, within_eq, Option.bind_some, decide_eq_true_eq]
    rw [if_neg (by omega)]
    have hlen : ((p.length : Int) = 2) ↔ p.length = 2 := by omega
    by_cases a1 : 0 ≤ k ∧ k ≤ 2
    · by_cases a2 : 0 ≤ l ∧ l ≤ 200
      · by_cases a3 : p.length = 2
        · rw [if_pos a1, if_pos a2, if_pos (hlen.2 a3)]
          by_cases k0 : k = 0
          · rw [if_pos k0]
            by_cases l0 : l = 0
            · rw [decide_eq_true (show IOk k l p from ⟨a1.1, a1.2, a2.1, a2.2, a3, hall', fun _ => l0⟩), l0]
              rfl
            · rw [decide_eq_false (fun h : IOk k l p => l0 (h.2.2.2.2.2.2 k0)), beq_eq_false_iff_ne.2 l0]
          · rw [if_neg k0, decide_eq_true (show IOk k l p from ⟨a1.1, a1.2, a2.1, a2.2, a3, hall', fun h => absurd h k0⟩)]
        · rw [if_pos a1, if_pos a2, if_neg (fun h => a3 (hlen.1 h)), decide_eq_false (fun h : IOk k l p => a3 h.2.2.2.2.1)]
      · rw [if_pos a1, if_neg a2, decide_eq_false (fun h : IOk k l p => a2 ⟨h.2.2.1, h.2.2.2.1⟩)]
    · rw [if_neg a1, decide_eq_false (fun h : IOk k l p => a1 ⟨h.1, h.2.1⟩)]
  | succ d ih =>
    intro i h0 h1 hd hall
    have hw : wrap64 (i + 1) = i + 1 := w64 (by omega) (by omega)
    have e : rd p i = p.getD i.toNat 0 := rfl
    have hmem := getD_mem (xs := p) (i := i.toNat) 0 (by omega)
    by_cases hin : 0 ≤ p.getD i.toNat 0 ∧ p.getD i.toNat 0 ≤ 16 ∧ (k = 0 → p.getD i.toNat 0 = 0)
    · refine Ev.step (fun n => ?_) (ih (i + 1) (by omega) (by omega) (by omega) (fun j hj => by
        by_cases ej : j = i.toNat
        · rw [ej]; exact hin
        · exact hall j (by omega)))
      simp only [impl_InodeOk.l0, within_eq, Option.bind_some, decide_eq_true_eq, e]
      rw [if_pos (by omega), if_pos h0, if_pos (by omega), if_pos ⟨hin.1, hin.2.1⟩, hw]
      by_cases z : p.getD i.toNat 0 = 0
      · rw [if_pos z]
      · rw [if_neg z, if_neg (fun k0 => z (hin.2.2 k0))]
    · refine Ev.last (fun n => ?_)
      rw [decide_eq_false (fun h : IOk k l p => hin (h.2.2.2.2.2.1 _ hmem))]
      simp only [impl_InodeOk.l0, within_eq, Option.bind_some, decide_eq_true_eq, e]
      rw [if_pos (by omega), if_pos h0, if_pos (by omega)]
      by_cases hr : 0 ≤ p.getD i.toNat 0 ∧ p.getD i.toNat 0 ≤ 16
      · have hk : k = 0 := Decidable.byContradiction fun hk => hin ⟨hr.1, hr.2, fun h => absurd h hk⟩
        have hz : ¬ p.getD i.toNat 0 = 0 := fun hz => hin ⟨hr.1, hr.2, fun _ => hz⟩
        rw [if_pos hr, if_neg hz, if_pos hk]
      · rw [if_neg hr]
theorem impl_inodeok (k l : Int) (p : List Int) (hp : p.length ≤ 1048576) : Ev (fun n => impl_InodeOk.f n k l p) (decide (IOk k l p)) :=
  impl_inodeok_loop k l p hp p.length 0 (by omega) (by omega) (by omega) (fun j hj => by omega)

theorem bytetexts_loop (p : List Int) (hp : p.length ≤ 1048576) (d : Nat) : ∀ (l : List Int) (i : Nat), i ≤ p.length → p.length - i = d → l = (p.take i).map (· % 256) → Ev (fun k => impl_byteTexts.l0 k l p (p.length : Int) (i : Int)) (strOfNums (p.map (· % 256))) := by
  induction d with
  | zero =>
    intro l i hi hd hl
    obtain rfl : i = p.length := by omega
    rw [List.take_length] at hl
    subst hl
    exact Ev.last (fun k => by simp only [impl_byteTexts.l0]; rw [if_neg (by omega)])
  | succ d ih =>
    intro l i hi hd hl
    have hlen : l.length = i := by rw [hl]; simp; omega
    refine Ev.step (fun k => ?_) (ih (l ++ [rd p (i : Int) % 256]) (i + 1) (by omega) (by omega) ?_)
    · simp only [impl_byteTexts.l0]
      rw [if_pos (by omega), if_pos (by omega), if_pos (by omega), if_pos (by omega), w64 (x := (i : Int) + 1) (by omega) (by omega)]
      rfl
    · have hr : rd p (i : Int) = p[i] := by
        unfold rd
        rw [Int.toNat_natCast, List.getD_eq_getElem?_getD, List.getElem?_eq_getElem (by omega)]
        rfl
      rw [List.take_succ_eq_append_getElem (by omega), List.map_append, ← hl, hr]
      rfl
theorem bytetexts_ev (p : List Int) (hp : p.length ≤ 1048576) : Ev (fun k => impl_byteTexts.f k p) (strOfNums (p.map (· % 256))) :=
  bytetexts_loop p hp p.length [] 0 (by omega) (by omega) (by simp)
theorem strOfNums_append (xs ys : List Int) : strOfNums xs ++ strOfNums ys = strOfNums (xs ++ ys) := by
  apply toList_inj
  rw [Go.Lib.toList_data, Go.Lib.toList_data, ByteArray.data_append, Array.toList_append, strOfNums_data, strOfNums_data, strOfNums_data, List.map_append]

/-- What both InodeTexts answer. -/
def IT (x y : Int) (p : List Int) : ByteArray × Bool := if IOk x y p then (strOfNums ((x % 256) :: (y % 256) :: p.map (· % 256)), true) else (⟨#[]⟩, false)
theorem impl_inodetext (x y : Int) (p : List Int) (hp : p.length ≤ 1048576) : Ev (fun k => impl_InodeText.f k x y p) (IT x y p) := by
  unfold impl_InodeText.f IT
  refine Ev.bind (impl_inodeok x y p hp) ?_
  by_cases h : IOk x y p
  · simp only [decide_eq_true h, if_true, if_pos h]
    refine Ev.bind (bytetexts_ev [x, y] (by simp)) (Ev.bind (bytetexts_ev p hp) (Ev.now' fun _ => ?_))
    rw [strOfNums_size, strOfNums_size, if_pos (by simp; omega), strOfNums_append]
    rfl
  · simp only [decide_eq_false h, if_neg h]
    exact Ev.now' fun _ => rfl

theorem spec_inodetext (x y : Int) (p : List Int) : Ev (fun k => spec_InodeText.f k x y p) (IT x y p) := by
  unfold spec_InodeText.f IT
  refine Ev.bind (spec_inodeok x y p) ?_
  by_cases h : IOk x y p
  · obtain ⟨a, b, rfl⟩ := two_of h.2.2.2.2.1
    simp only [decide_eq_true h, if_true, if_pos h]
    exact Ev.now' fun _ => rfl
  · simp only [decide_eq_false h, if_neg h]
    exact Ev.now' fun _ => rfl

/-- What both ReadInodes answer. -/
def RI (s : ByteArray) : Int × Int × List Int × Bool := if s.size = 4 ∧ IOk (bt s 0) (bt s 1) [bt s 2, bt s 3] then (bt s 0, bt s 1, [bt s 2, bt s 3], true) else (0, 0, [], false)
theorem wbt (s : ByteArray) (i : Int) : wrap64 (bt s i) = bt s i := by
  have := bt_range s i
  exact w64 (by omega) (by omega)
theorem spec_readinode (s : ByteArray) : Ev (fun k => spec_ReadInode.f k s) (RI s) := by
  unfold spec_ReadInode.f RI
  by_cases h : s.size = 4
  · have hs : (s.size : Int) = 4 := by omega
    simp only [wbt]
    refine Ev.congr (f := fun k => (spec_InodeOk.f k (bt s 0) (bt s 1) [bt s 2, bt s 3]).bind fun t => if t = true then some (bt s 0, bt s 1, [bt s 2, bt s 3], true) else some (0, 0, ([] : List Int), false)) (fun k => ?_) ?_
    · rw [if_pos hs, if_pos (by omega), if_pos (by omega), if_pos (by omega), if_pos (by omega)]
      rfl
    · refine Ev.bind (spec_inodeok _ _ _) (Ev.now' fun _ => ?_)
      by_cases ho : IOk (bt s 0) (bt s 1) [bt s 2, bt s 3]
      · simp [h, ho]
      · simp [h, ho]
  · exact Ev.now' fun k => by rw [if_neg (by omega), if_neg (fun z => h z.1)]
theorem impl_readinode (s : ByteArray) : Ev (fun k => impl_ReadInode.f k s) (RI s) := by
  unfold impl_ReadInode.f RI
  by_cases h : s.size = 4
  · have hs : (s.size : Int) = 4 := by omega
    simp only [wbt]
    have w0 : wrap64 (0 + 1) = 1 := by decide +kernel
    have w1 : wrap64 (1 + 1) = 2 := by decide +kernel
    have v0 : wrap64 (2 + 0) = 2 := by decide +kernel
    have v1 : wrap64 (2 + 1) = 3 := by decide +kernel
    refine Ev.congr (f := fun k => impl_ReadInode.l0 k s 0 (bt s 0) (bt s 1) []) (fun k => by rw [if_pos hs, if_pos (by omega), if_pos (by omega)]) ?_
    refine Ev.step (f := fun k => impl_ReadInode.l0 k s 1 (bt s 0) (bt s 1) [bt s 2]) (fun k => by
      simp only [impl_ReadInode.l0, v0, w0, wbt]
      rw [if_pos (by omega), if_pos (by omega), if_pos (by omega), if_pos (by simp)]
      rfl) ?_
    refine Ev.step (f := fun k => impl_ReadInode.l0 k s 2 (bt s 0) (bt s 1) [bt s 2, bt s 3]) (fun k => by
      simp only [impl_ReadInode.l0, v1, w1, wbt]
      rw [if_pos (by omega), if_pos (by omega), if_pos (by omega), if_pos (by simp)]
      rfl) ?_
    refine Ev.step (f := fun k => (impl_InodeOk.f k (bt s 0) (bt s 1) [bt s 2, bt s 3]).bind fun t => if t = true then some (bt s 0, bt s 1, [bt s 2, bt s 3], true) else some (0, 0, ([] : List Int), false)) (fun k => by
      simp only [impl_ReadInode.l0]
      rw [if_neg (by omega)]) ?_
    refine Ev.bind (impl_inodeok _ _ _ (by simp)) (Ev.now' fun _ => ?_)
    by_cases ho : IOk (bt s 0) (bt s 1) [bt s 2, bt s 3]
    · simp [h, ho]
    · simp [h, ho]
  · exact Ev.now' fun k => by rw [if_neg (by omega), if_neg (fun z => h z.1)]
theorem ri_len (s : ByteArray) : (RI s).2.2.1.length ≤ 1048576 := by
  unfold RI
  split <;> simp

theorem text_loop (s : List Int) (hs : s.length ≤ 140737488351232) (n : Int) (hn : n ≤ 5000) (d : Nat) : ∀ (l : List Int) (j i h : Int), 0 ≤ j → j ≤ n → n - j = d → l.length = j → 0 ≤ i → i ≤ s.length → ∃ t i' h', Ev (fun k => spec_l01Text.l0 k n l j s i h) (t, i', h') ∧ (t.size : Int) = n ∧ 0 ≤ i' ∧ i' ≤ s.length := by
  induction d with
  | zero =>
    intro l j i h j0 j1 hd hl h0 h1
    exact ⟨strOfNums l, i, h, Ev.last (fun k => by simp only [spec_l01Text.l0]; rw [if_neg (by omega)]), by rw [strOfNums_size]; omega, h0, h1⟩
  | succ d ih =>
    intro l j i h j0 j1 hd hl h0 h1
    obtain ⟨b, i1, g1, e, _, _, i0, i2⟩ := byte_some s hs i h h0 h1
    obtain ⟨t, i', h', ht, r⟩ := ih (l ++ [b % 256]) (j + 1) i1 g1 (by omega) (by omega) (by omega) (by simp; omega) i0 i2
    refine ⟨t, i', h', Ev.step (fun k => ?_) ht, r⟩
    simp only [spec_l01Text.l0]
    rw [if_pos (by omega), e]
    simp only [Option.bind_some]
    rw [if_pos (by omega), w64 (x := j + 1) (by omega) (by omega)]
theorem text_ev (s : List Int) (hs : s.length ≤ 140737488351232) (i h n : Int) (n0 : 0 ≤ n) (n1 : n ≤ 5000) (h0 : 0 ≤ i) (h1 : i ≤ s.length) : ∃ t i' h', Ev (fun k => spec_l01Text.f k s i h n) (t, i', h') ∧ (t.size : Int) = n ∧ 0 ≤ i' ∧ i' ≤ s.length := by
  obtain ⟨t, i', h', ht, r⟩ := text_loop s hs n n1 n.toNat [] 0 i h (by omega) n0 (by omega) rfl h0 h1
  refine ⟨t, i', h', ?_, r⟩
  refine Ev.congr (fun k => ?_) (Ev.step (g := fun k => spec_l01Text.j0 k n s i h) (fun k => by simp only [spec_l01Text.j0]) ht)
  unfold spec_l01Text.f
  rw [if_neg (by omega)]

theorem size_extract (s : ByteArray) (i j : Nat) (hj : j ≤ s.size) : (s.extract i j).size = j - i := by
  rw [ByteArray.size_extract]
  omega
theorem split_at (s : ByteArray) (n : Nat) (h : n ≤ s.size) : s.extract 0 n ++ s.extract n s.size = s := by
  apply toList_inj
  rw [Go.Lib.toList_data, Go.Lib.toList_data, ByteArray.data_append, Array.toList_append, Go.Lib.extract_data, Go.Lib.extract_data]
  have hl : s.data.toList.length = s.size := by rw [Array.length_toList]; rfl
  rw [List.drop_zero, Nat.sub_zero, List.take_of_length_le (l := List.drop n s.data.toList) (by rw [List.length_drop, hl]; omega), List.take_append_drop]

theorem spoilt_ev (s : List Int) (hs : s.length ≤ 140737488351232) (i h : Int) (x : ByteArray) (hx : x.size ≤ 100000) (h0 : 0 ≤ i) (h1 : i ≤ s.length) : ∃ r i' h', Ev (fun k => spec_l02Spoilt.f k s i h x) (r, i', h') ∧ r.size ≤ x.size + 1 ∧ 0 ≤ i' ∧ i' ≤ s.length := by
  obtain ⟨c, i1, g1, e1, a0, a1, c0, _, _⟩ := below_some s hs i h 12 h0 h1
  have keep : ∀ k, spec_l02Spoilt.j0 (k + 1) x false s i1 g1 = some (x, i1, g1) := fun k => by simp only [spec_l02Spoilt.j0]; rfl
  have turn : ∃ r i' h', Ev (fun k => spec_l02Spoilt.j0 k x true s i1 g1) (r, i', h') ∧ r.size ≤ x.size + 1 ∧ 0 ≤ i' ∧ i' ≤ s.length := by
    by_cases hp : (x.size : Int) > 0
    · obtain ⟨d, i2, g2, e2, b0, b1, d0, _, d1⟩ := below_some s hs i1 g1 (x.size : Int) a0 a1
      have d2 := d1 (by omega)
      obtain ⟨t, i3, g3, ht, ht1, q0, q1⟩ := text_ev s hs i2 g2 1 (by omega) (by omega) b0 b1
      have hw : wrap64 (d + 1) = d + 1 := w64 (by omega) (by omega)
      have s1 := size_extract x 0 d.toNat (by omega)
      have s2 := size_extract x (d + 1).toNat x.size (by omega)
      refine ⟨(x.extract 0 d.toNat ++ t) ++ x.extract (d + 1).toNat x.size, i3, g3, Ev.step (f := fun k => (spec_l01Text.f k s i2 g2 1).bind fun b => if (x.extract 0 d.toNat).size + b.1.size ≤ 9223372036854775807 then (if ((x.extract 0 d.toNat) ++ b.1).size + (x.extract (d + 1).toNat x.size).size ≤ 9223372036854775807 then some (((x.extract 0 d.toNat) ++ b.1) ++ (x.extract (d + 1).toNat x.size), b.2.1, b.2.2) else none) else none) (fun k => ?_) (Ev.bind ht (Ev.now' fun _ => ?_)), ?_, q0, q1⟩
      · simp only [spec_l02Spoilt.j0, if_true, if_pos hp, e2, Option.bind_some, hw]
        rw [if_pos d0, if_pos (by omega)]
        simp only [if_pos (show (0 : Int) ≤ d + 1 by omega), if_pos (show d + 1 ≤ (x.size : Int) by omega)]
      · simp only
        rw [if_pos (by omega), if_pos (by rw [ByteArray.size_append]; omega)]
      · rw [ByteArray.size_append, ByteArray.size_append]
        omega
    · exact ⟨x, i1, g1, Ev.last fun k => by simp only [spec_l02Spoilt.j0, if_true]; rw [if_neg hp], by omega, a0, a1⟩
  unfold spec_l02Spoilt.f
  simp only [e1, Option.bind_some]
  by_cases k0 : c = 0
  · obtain ⟨t, i3, g3, ht, ht1, q0, q1⟩ := text_ev s hs i1 g1 1 (by omega) (by omega) a0 a1
    refine ⟨x ++ t, i3, g3, ?_, by rw [ByteArray.size_append]; omega, q0, q1⟩
    simp only [if_pos k0]
    refine Ev.bind ht (Ev.now' fun _ => ?_)
    simp only
    rw [if_pos (by omega)]
  · by_cases k1 : c = 1
    · have hw : wrap64 ((x.size : Int) + 1) = (x.size : Int) + 1 := w64 (by omega) (by omega)
      obtain ⟨d, i2, g2, e2, b0, b1, d0, _, d1⟩ := below_some s hs i1 g1 ((x.size : Int) + 1) a0 a1
      have d2 := d1 (by omega)
      refine ⟨x.extract 0 d.toNat, i2, g2, ?_, ?_, b0, b1⟩
      · simp only [if_neg k0, if_pos k1, hw, e2, Option.bind_some]
        exact Ev.now' fun _ => by rw [if_pos d0, if_pos (by omega)]
      · rw [size_extract x 0 d.toNat (by omega)]
        omega
    · by_cases k2 : c = 2
      · obtain ⟨r, i', h', hr, q⟩ := turn
        refine ⟨r, i', h', ?_, q⟩
        simp only [if_neg k0, if_neg k1, if_pos k2]
        rw [k2]
        exact hr
      · by_cases k3 : c = 3
        · obtain ⟨r, i', h', hr, q⟩ := turn
          refine ⟨r, i', h', ?_, q⟩
          simp only [if_neg k0, if_neg k1, if_neg k2]
          rw [k3]
          exact hr
        · refine ⟨x, i1, g1, ?_, by omega, a0, a1⟩
          simp only [if_neg k0, if_neg k1, if_neg k2, beq_eq_false_iff_ne.2 k3]
          exact Ev.last keep

theorem bt_str (xs : List Int) (i : Nat) (hi : i < xs.length) (h : ∀ x ∈ xs, 0 ≤ x ∧ x ≤ 255) : bt (strOfNums xs) (i : Int) = xs.getD i 0 := by
  unfold bt
  have hs := strOfNums_size xs
  rw [dif_pos (by rw [Int.toNat_natCast, hs]; exact hi)]
  have e : (strOfNums xs)[((i : Int)).toNat]'(by rw [Int.toNat_natCast, hs]; exact hi) = UInt8.ofNat (xs[i]).toNat := by
    show (strOfNums xs).data[((i : Int)).toNat]'_ = _
    have := strOfNums_data xs
    simp only [strOfNums, Int.toNat_natCast, List.getElem_toArray, List.getElem_map]
  have hx := h (xs[i]) (List.getElem_mem hi)
  rw [e, List.getD_eq_getElem?_getD, List.getElem?_eq_getElem hi, Option.getD_some, UInt8.toNat_ofNat']
  omega
theorem str_three (s : ByteArray) (h : s.size = 3) : strOfNums [bt s 0, bt s 1, bt s 2] = s := by
  apply toList_inj
  rw [Go.Lib.toList_data, Go.Lib.toList_data, strOfNums_data]
  have hl : s.data.toList.length = 3 := by rw [Array.length_toList]; exact h
  have hb : ∀ i : Nat, (hi : i < 3) → UInt8.ofNat (bt s (i : Int)).toNat = s.data.toList[i]'(by omega) := fun i hi => by
    unfold bt
    rw [dif_pos (by rw [Int.toNat_natCast]; omega)]
    simp only [Int.toNat_natCast]
    rw [UInt8.ofNat_toNat]
    rfl
  match hs : s.data.toList, hl with
  | [a, b, c], _ =>
    have h0 := hb 0 (by omega)
    have h1 := hb 1 (by omega)
    have h2 := hb 2 (by omega)
    simp only [hs] at h0 h1 h2
    simp only [List.map_cons, List.map_nil, List.cons.injEq, and_true]
    exact ⟨h0, h1, h2⟩

theorem laws_sameInts_loop (l : List (Int)) (hl : l.length ≤ 1048576) (d : Nat) : ∀ (i : Int), 0 ≤ i → i ≤ l.length → (l.length : Int) - i = d → Ev (fun k => laws_sameInts.l0 k l l i) true := by
  induction d with
  | zero =>
    intro i h0 h1 hd
    exact Ev.last (fun k => by simp only [laws_sameInts.l0]; rw [if_neg (by omega)])
  | succ d ih =>
    intro i h0 h1 hd
    have hw : wrap64 (i + 1) = i + 1 := w64 (by omega) (by omega)
    refine Ev.step (fun k => ?_) (ih (i + 1) (by omega) (by omega) (by omega))
    simp only [laws_sameInts.l0]
    rw [if_pos (by omega), if_pos h0, if_pos (by omega), hw]
    simp
theorem laws_sameInts_refl (l : List (Int)) (hl : l.length ≤ 1048576) : Ev (fun k => laws_sameInts.f k l l) true := by
  refine Ev.congr (fun k => ?_) (laws_sameInts_loop l hl l.length 0 (by omega) (by omega) (by omega))
  unfold laws_sameInts.f
  rw [if_pos rfl]

theorem Ev.uniq {α : Type} {g : Nat → Option α} {r r' : α} (h : Ev g r) (h' : Ev g r') : r = r' := by
  obtain ⟨K, hK⟩ := h
  obtain ⟨K', hK'⟩ := h'
  have a := hK (max K K') (Nat.le_max_left _ _)
  rw [hK' (max K K') (Nat.le_max_right _ _)] at a
  exact (Option.some.inj a).symm

theorem IT_small (x y : Int) (p : List Int) : (IT x y p).1.size ≤ 4 := by
  unfold IT
  split
  · rename_i h
    obtain ⟨a, b, rfl⟩ := two_of h.2.2.2.2.1
    simp [strOfNums_size]
  · simp [ByteArray.size]
theorem str_four (s : ByteArray) (h : s.size = 4) : strOfNums [bt s 0, bt s 1, bt s 2, bt s 3] = s := by
  apply toList_inj
  rw [Go.Lib.toList_data, Go.Lib.toList_data, strOfNums_data]
  have hl : s.data.toList.length = 4 := by rw [Array.length_toList]; exact h
  have hb : ∀ i : Nat, (hi : i < 4) → UInt8.ofNat (bt s (i : Int)).toNat = s.data.toList[i]'(by omega) := fun i hi => by
    unfold bt
    rw [dif_pos (by rw [Int.toNat_natCast]; omega)]
    simp only [Int.toNat_natCast]
    rw [UInt8.ofNat_toNat]
    rfl
  match hs : s.data.toList, hl with
  | [a, b, c, d], _ =>
    have h0 := hb 0 (by omega)
    have h1 := hb 1 (by omega)
    have h2 := hb 2 (by omega)
    have h3 := hb 3 (by omega)
    simp only [hs] at h0 h1 h2 h3
    simp only [List.map_cons, List.map_nil, List.cons.injEq, and_true]
    exact ⟨h0, h1, h2, h3⟩
theorem IOk_mod {x y a b : Int} (h : IOk x y [a, b]) : x % 256 = x ∧ y % 256 = y ∧ a % 256 = a ∧ b % 256 = b := by
  obtain ⟨h1, h2, h3, h4, _, h6, _⟩ := h
  have ha := h6 a (by simp)
  have hb := h6 b (by simp)
  omega
/-- A right inode comes back from its bytes. -/
theorem RI_back (x y : Int) (p : List Int) (h : IOk x y p) : RI (IT x y p).1 = (x, y, p, true) := by
  obtain ⟨a, b, rfl⟩ := two_of h.2.2.2.2.1
  have h0 := h
  obtain ⟨m0, m1, m2, m3⟩ := IOk_mod h
  have e : (IT x y [a, b]).1 = strOfNums [x, y, a, b] := by
    unfold IT
    rw [if_pos h]
    simp only [List.map_cons, List.map_nil, m0, m1, m2, m3]
  obtain ⟨h1, h2, h3, h4, _, h6, _⟩ := h
  have ha := h6 a (by simp)
  have hb := h6 b (by simp)
  have hr : ∀ v ∈ [x, y, a, b], 0 ≤ v ∧ v ≤ 255 := fun v hv => by
    simp only [List.mem_cons, List.not_mem_nil, or_false] at hv
    rcases hv with rfl | rfl | rfl | rfl <;> omega
  have b0 : bt (strOfNums [x, y, a, b]) 0 = x := bt_str [x, y, a, b] 0 (by simp) hr
  have b1 : bt (strOfNums [x, y, a, b]) 1 = y := bt_str [x, y, a, b] 1 (by simp) hr
  have b2 : bt (strOfNums [x, y, a, b]) 2 = a := bt_str [x, y, a, b] 2 (by simp) hr
  have b3 : bt (strOfNums [x, y, a, b]) 3 = b := bt_str [x, y, a, b] 3 (by simp) hr
  rw [e]
  unfold RI
  rw [b0, b1, b2, b3, if_pos ⟨by rw [strOfNums_size]; rfl, h0⟩]
/-- Bytes that are an inode's are the bytes of it. -/
theorem IT_back (s : ByteArray) (h : (RI s).2.2.2 = true) : (IT (RI s).1 (RI s).2.1 (RI s).2.2.1).1 = s := by
  unfold RI at h ⊢
  by_cases c : s.size = 4 ∧ IOk (bt s 0) (bt s 1) [bt s 2, bt s 3]
  · rw [if_pos c]
    obtain ⟨m0, m1, m2, m3⟩ := IOk_mod c.2
    show (IT (bt s 0) (bt s 1) [bt s 2, bt s 3]).1 = s
    unfold IT
    rw [if_pos c.2]
    simp only [List.map_cons, List.map_nil, m0, m1, m2, m3]
    exact str_four s c.1
  · rw [if_neg c] at h
    simp at h
theorem FnInodes : laws_FnInodes.Pure := by
  intro s hm hs _
  have hs' : s.length ≤ 140737488351232 := by omega
  unfold laws_FnInodes.f
  by_cases hb : (s.length : Int) > 1048576
  · refine ⟨0, ?_⟩
    rw [big_eq, decide_eq_true hb]
    rfl
  · obtain ⟨h0, hnew⟩ := new_ev s hs'
    obtain ⟨x, y, p, i1, g1, hany, hp, a0, a1⟩ := l03any_some s hs' 0 h0 (by omega) (by omega)
    have hdraw : Ev (fun k => spec_DrawInodeText.f k s) (x, y, p) := by
      unfold spec_DrawInodeText.f
      refine Ev.bind hnew (Ev.now' fun _ => ?_)
      simp only [hany, Option.bind_some]
    have hsz := IT_small x y p
    obtain ⟨t, hdr⟩ : ∃ t, Ev (fun k => spec_DrawReadInode.f k s) t := by
      obtain ⟨c, i2, g2, e2, b0, b1⟩ := once_some s hs' i1 g1 3 a0 a1
      unfold spec_DrawReadInode.f
      cases c with
      | true =>
        obtain ⟨r, i3, g3, hr, _, _, _⟩ := spoilt_ev s hs' i2 g2 (IT x y p).1 (by omega) b0 b1
        refine ⟨r, Ev.bind hnew ?_⟩
        simp only [hany, Option.bind_some]
        refine Ev.bind (spec_inodetext x y p) ?_
        simp only [e2, Option.bind_some, if_true]
        exact Ev.bind hr (Ev.now _)
      | false =>
        refine ⟨(IT x y p).1, Ev.bind hnew ?_⟩
        simp only [hany, Option.bind_some]
        refine Ev.bind (spec_inodetext x y p) ?_
        simp only [e2, Option.bind_some, Bool.false_eq_true, if_false]
        exact Ev.now _
    have hIT2 : (IT x y p).2 = decide (IOk x y p) := by
      unfold IT
      by_cases h : IOk x y p
      · rw [if_pos h, decide_eq_true h]
      · rw [if_neg h, decide_eq_false h]
    have hl2 := ri_len t
    rw [big_eq, decide_eq_false hb]
    simp only [Option.bind_some, Bool.false_eq_true, if_false]
    refine Ev.rounds (Ev.bind hdraw (Ev.bind (impl_inodetext x y p (by omega)) (Ev.bind (impl_readinode (IT x y p).1) (Ev.bind hdr (Ev.bind (impl_readinode t) (Ev.bind (spec_readinode t) (Ev.bind (impl_inodetext _ _ _ hl2) (Ev.bind (spec_inodeok x y p) ?_))))))))
    simp only [hIT2, beq_self_eq_true, if_true]
    refine Ev.bind (impl_inodeok x y p (by omega)) ?_
    simp only [beq_self_eq_true, if_true]
    have hlast : (if (RI t).2.2.2 = true then some ((IT (RI t).1 (RI t).2.1 (RI t).2.2.1).1.toList == t.toList) else some true) = some true := by
      by_cases h : (RI t).2.2.2 = true
      · rw [if_pos h, IT_back t h, beq_self_eq_true]
      · rw [if_neg h]
    simp only [hlast]
    by_cases h : IOk x y p
    · simp only [decide_eq_true h, RI_back x y p h, if_true]
      have hsame : Ev (fun k => laws_sameInode.f k x y p x y p) true := by
        unfold laws_sameInode.f
        simp only [if_true]
        exact Ev.bind (laws_sameInts_refl p (by omega)) (Ev.now _)
      exact Ev.bind hsame (Ev.now' fun _ => by rw [if_pos rfl])
    · simp only [decide_eq_false h, Bool.false_eq_true, if_false]
      exact Ev.now _
end Go.Proofs.Ytfkjjehkngmgaaa.Pure
