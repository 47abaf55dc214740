/- FnBits: for every draw, BitsText and ReadBits are each other's inverse, BitsOk is right, and new bits are right with the first inode alone set; no condition. -/
import Derived.Test.YtfkjjehkngmgaaaPFnBitsx6
import Derived.Test.YtfkjjehkngmgaaaAid
namespace Go.Proofs.Ytfkjjehkngmgaaa.Pure
open Go.RowKit Go.Proofs.Ytfkjjehkngmgaaa.PFnBits Go.Proofs.YtfkjjehkngmgaaaW.PrintWords Go.Proofs.YtfkjjehkngmgaaaW.PrintLast Go.Proofs.YtfkjjehkngmgaaaW.PrintMore Go.Proofs.Ytfkjjehkngmgaaa.Aid
set_option linter.unusedVariables false
set_option linter.unusedSimpArgs false

theorem big_eq (l : List Int) : laws_big.f l = some (decide ((l.length : Int) > 1048576)) := rfl

theorem byte_some (s : List Int) (hs : s.length ≤ 140737488351232) (i h : Int) (h0 : 0 ≤ i) (h1 : i ≤ s.length) : ∃ b i' h', spec_l01Byte.f s i h = some (b, i', h') ∧ 0 ≤ b ∧ b ≤ 255 ∧ 0 ≤ i' ∧ i' ≤ s.length := by
  unfold spec_l01Byte.f
  by_cases hi : i < (s.length : Int)
  · rw [if_pos hi, if_pos h0, w64 (x := i + 1) (by omega) (by omega), and255]
    exact ⟨_, _, _, rfl, by omega, by omega, by omega, by omega⟩
  · rw [if_neg hi, and255]
    exact ⟨_, _, _, rfl, by omega, by omega, by omega, by omega⟩

theorem below_some (s : List Int) (hs : s.length ≤ 140737488351232) (i h n : Int) (h0 : 0 ≤ i) (h1 : i ≤ s.length) : ∃ r i' h', spec_l01Below.f s i h n = some (r, i', h') ∧ 0 ≤ i' ∧ i' ≤ s.length ∧ 0 ≤ r ∧ (n ≤ 0 → r = 0) ∧ (0 < n → r < n) := by
  unfold spec_l01Below.f
  by_cases hn : n ≤ 0
  · rw [if_pos hn]
    exact ⟨_, _, _, rfl, h0, h1, by omega, fun _ => rfl, fun h => by omega⟩
  · rw [if_neg hn]
    by_cases hm : n ≤ 256
    · rw [if_pos hm]
      obtain ⟨b, i1, h1', e, b0, b1, c0, c1⟩ := byte_some s hs i h h0 h1
      rw [e]
      simp only [Option.bind_some]
      rw [if_neg (by omega), tmod_nn b0]
      have p0 := Int.emod_nonneg b (show n ≠ 0 by omega)
      have p1 := Int.emod_lt_of_pos b (show 0 < n by omega)
      exact ⟨_, _, _, rfl, c0, c1, p0, fun h => by omega, fun _ => p1⟩
    · rw [if_neg hm]
      obtain ⟨a, i1, g1, e1, a0, a1, c0, c1⟩ := byte_some s hs i h h0 h1
      rw [e1]
      simp only [Option.bind_some]
      obtain ⟨b, i2, g2, e2, b0, b1, d0, d1⟩ := byte_some s hs i1 g1 c0 c1
      rw [e2]
      simp only [Option.bind_some]
      obtain ⟨c, i3, g3, e3, k0, k1, f0, f1⟩ := byte_some s hs i2 g2 d0 d1
      rw [e3]
      simp only [Option.bind_some]
      obtain ⟨d, i4, g4, e4, l0, l1, m0, m1⟩ := byte_some s hs i3 g3 f0 f1
      rw [e4]
      simp only [Option.bind_some]
      rw [if_neg (by omega), w64 (x := a * 16777216) (by omega) (by omega), w64 (x := b * 65536) (by omega) (by omega), w64 (x := c * 256) (by omega) (by omega), w64 (x := a * 16777216 + b * 65536) (by omega) (by omega),
        w64 (x := a * 16777216 + b * 65536 + c * 256) (by omega) (by omega), w64 (x := a * 16777216 + b * 65536 + c * 256 + d) (by omega) (by omega), tmod_nn (by omega)]
      have p0 := Int.emod_nonneg (a * 16777216 + b * 65536 + c * 256 + d) (show n ≠ 0 by omega)
      have p1 := Int.emod_lt_of_pos (a * 16777216 + b * 65536 + c * 256 + d) (show 0 < n by omega)
      exact ⟨_, _, _, rfl, m0, m1, p0, fun h => by omega, fun _ => p1⟩

theorem once_some (s : List Int) (hs : s.length ≤ 140737488351232) (i h n : Int) (h0 : 0 ≤ i) (h1 : i ≤ s.length) : ∃ b i' h', spec_l01Once.f s i h n = some (b, i', h') ∧ 0 ≤ i' ∧ i' ≤ s.length := by
  unfold spec_l01Once.f
  obtain ⟨r, i1, g1, e, c0, c1, _⟩ := below_some s hs i h n h0 h1
  rw [e]
  exact ⟨_, _, _, rfl, c0, c1⟩

theorem new_ends (s : List Int) (hs : s.length ≤ 140737488351232) (d : Nat) : ∀ (h i : Int), 0 ≤ i → i ≤ s.length → (s.length : Int) - i = d → ∃ h', Ev (fun k => spec_l01New.l0 k s h i) (s, 0, h') := by
  induction d with
  | zero =>
    intro h i h0 h1 hd
    exact ⟨h, Ev.last (fun k => by simp only [spec_l01New.l0]; rw [if_neg (by omega)])⟩
  | succ d ih =>
    intro h i h0 h1 hd
    by_cases hf : i < 4000
    · obtain ⟨h', hr⟩ := ih (Go.bits .and .i64 (wrap64 ((wrap64 ((wrap64 (h * 131)) + (wrap64 (rd s i)))) + 7)) 1073741823) (i + 1) (by omega) (by omega) (by omega)
      exact ⟨h', Ev.step (fun k => by simp only [spec_l01New.l0]; rw [if_pos (by omega), if_pos hf, if_pos h0, w64 (x := i + 1) (by omega) (by omega)]) hr⟩
    · exact ⟨h, Ev.last (fun k => by simp only [spec_l01New.l0]; rw [if_pos (by omega), if_neg hf])⟩
theorem new_ev (s : List Int) (hs : s.length ≤ 140737488351232) : ∃ h, Ev (fun k => spec_l01New.f k s) (s, 0, h) := by
  obtain ⟨h, hr⟩ := new_ends s hs s.length (wrap64 (37701 + (s.length : Int))) 0 (by omega) (by omega) (by omega)
  exact ⟨h, hr⟩

theorem text_loop (s : List Int) (hs : s.length ≤ 140737488351232) (n : Int) (hn : n ≤ 5000) (d : Nat) : ∀ (l : List Int) (j i h : Int), 0 ≤ j → j ≤ n → n - j = d → l.length = j → 0 ≤ i → i ≤ s.length → ∃ t i' h', Ev (fun k => spec_l01Text.l0 k n l j s i h) (t, i', h') ∧ (t.size : Int) = n ∧ 0 ≤ i' ∧ i' ≤ s.length := by
  induction d with
  | zero =>
    intro l j i h j0 j1 hd hl h0 h1
    exact ⟨strOfNums l, i, h, Ev.last (fun k => by simp only [spec_l01Text.l0]; rw [if_neg (by omega)]), by rw [strOfNums_size]; omega, h0, h1⟩
  | succ d ih =>
    intro l j i h j0 j1 hd hl h0 h1
    obtain ⟨b, i1, g1, e, _, _, i0, i2⟩ := byte_some s hs i h h0 h1
    obtain ⟨t, i', h', ht, r⟩ := ih (l ++ [b % 256]) (j + 1) i1 g1 (by omega) (by omega) (by omega) (by simp; omega) i0 i2
    refine ⟨t, i', h', Ev.step (fun k => ?_) ht, r⟩
    simp only [spec_l01Text.l0]
    rw [if_pos (by omega), e]
    simp only [Option.bind_some]
    rw [if_pos (by omega), w64 (x := j + 1) (by omega) (by omega)]
theorem text_ev (s : List Int) (hs : s.length ≤ 140737488351232) (i h n : Int) (n0 : 0 ≤ n) (n1 : n ≤ 5000) (h0 : 0 ≤ i) (h1 : i ≤ s.length) : ∃ t i' h', Ev (fun k => spec_l01Text.f k s i h n) (t, i', h') ∧ (t.size : Int) = n ∧ 0 ≤ i' ∧ i' ≤ s.length := by
  obtain ⟨t, i', h', ht, r⟩ := text_loop s hs n n1 n.toNat [] 0 i h (by omega) n0 (by omega) rfl h0 h1
  refine ⟨t, i', h', ?_, r⟩
  refine Ev.congr (fun k => ?_) (Ev.step (g := fun k => spec_l01Text.j0 k n s i h) (fun k => by simp only [spec_l01Text.j0]) ht)
  unfold spec_l01Text.f
  rw [if_neg (by omega)]

theorem pickint_some (s : List Int) (hs : s.length ≤ 140737488351232) (i h : Int) (l : List Int) (hl : 0 < l.length) (h0 : 0 ≤ i) (h1 : i ≤ s.length) : ∃ r i' h', spec_l01PickInt.f s i h l = some (r, i', h') ∧ r ∈ l ∧ 0 ≤ i' ∧ i' ≤ s.length := by
  obtain ⟨r, i', h', e, i0, i1, r0, _, r1⟩ := below_some s hs i h (l.length : Int) h0 h1
  have hr := r1 (by omega)
  refine ⟨rd l r, i', h', ?_, rd_mem r0 hr, i0, i1⟩
  unfold spec_l01PickInt.f
  rw [e]
  simp only [Option.bind_some]
  rw [if_pos r0, if_pos hr]

/-- Eight bits' number. -/
def pv (l : List Bool) : Int := l.foldr (fun b n => (if b then 1 else 0) + 2 * n) 0
theorem eight_of {l : List Bool} (h : l.length = 8) : ∃ a b c d e f g i, l = [a, b, c, d, e, f, g, i] := by
  match l, h with
  | [a, b, c, d, e, f, g, i], _ => exact ⟨a, b, c, d, e, f, g, i, rfl⟩
theorem packed_all : ∀ a b c d e f g i : Bool, impl_packed.f 10 [a, b, c, d, e, f, g, i] = some (pv [a, b, c, d, e, f, g, i]) ∧ 0 ≤ pv [a, b, c, d, e, f, g, i] ∧ pv [a, b, c, d, e, f, g, i] ≤ 255 := by decide +kernel
theorem impl_packed_ev (l : List Bool) (h : l.length = 8) : Ev (fun k => impl_packed.f k l) (pv l) ∧ 0 ≤ pv l ∧ pv l ≤ 255 := by
  obtain ⟨a, b, c, d, e, f, g, i, rfl⟩ := eight_of h
  obtain ⟨h2, h3⟩ := packed_all a b c d e f g i
  exact ⟨Ev.of (fun k => impl_packed.mono _ k) h2, h3⟩

theorem bytetexts_loop (p : List Int) (hp : p.length ≤ 1048576) (d : Nat) : ∀ (l : List Int) (i : Nat), i ≤ p.length → p.length - i = d → l = (p.take i).map (· % 256) → Ev (fun k => impl_byteTexts.l0 k l p (p.length : Int) (i : Int)) (strOfNums (p.map (· % 256))) := by
  induction d with
  | zero =>
    intro l i hi hd hl
    obtain rfl : i = p.length := by omega
    rw [List.take_length] at hl
    subst hl
    exact Ev.last (fun k => by simp only [impl_byteTexts.l0]; rw [if_neg (by omega)])
  | succ d ih =>
    intro l i hi hd hl
    have hlen : l.length = i := by rw [hl]; simp; omega
    refine Ev.step (fun k => ?_) (ih (l ++ [rd p (i : Int) % 256]) (i + 1) (by omega) (by omega) ?_)
    · simp only [impl_byteTexts.l0]
      rw [if_pos (by omega), if_pos (by omega), if_pos (by omega), if_pos (by omega), w64 (x := (i : Int) + 1) (by omega) (by omega)]
      rfl
    · have hr : rd p (i : Int) = p[i] := by
        unfold rd
        rw [Int.toNat_natCast, List.getD_eq_getElem?_getD, List.getElem?_eq_getElem (by omega)]
        rfl
      rw [List.take_succ_eq_append_getElem (by omega), List.map_append, ← hl, hr]
      rfl
theorem bytetexts_ev (p : List Int) (hp : p.length ≤ 1048576) : Ev (fun k => impl_byteTexts.f k p) (strOfNums (p.map (· % 256))) :=
  bytetexts_loop p hp p.length [] 0 (by omega) (by omega) (by simp)
theorem strOfNums_append (xs ys : List Int) : strOfNums xs ++ strOfNums ys = strOfNums (xs ++ ys) := by
  apply toList_inj
  rw [Go.Lib.toList_data, Go.Lib.toList_data, ByteArray.data_append, Array.toList_append, strOfNums_data, strOfNums_data, strOfNums_data, List.map_append]

/-- What both BitsTexts answer. -/
def BT (a b : List Bool) : ByteArray × Bool := if a.length = 16 ∧ b.length = 8 then (strOfNums [pv (a.take 8), pv (a.drop 8), pv b], true) else (⟨#[]⟩, false)
theorem impl_bitsok (a b : List Bool) : impl_BitsOk.f a b = some (decide (a.length = 16 ∧ b.length = 8)) := by
  unfold impl_BitsOk.f
  by_cases h1 : a.length = 16
  · by_cases h2 : b.length = 8
    · simp [h1, h2]
    · have : ((b.length : Int) == 8) = false := beq_eq_false_iff_ne.2 (by omega)
      simp [h1, h2, this]
  · have : ¬ (a.length : Int) = 16 := by omega
    simp [h1, this]
theorem impl_bitstext (a b : List Bool) : Ev (fun k => impl_BitsText.f k a b) (BT a b) := by
  unfold impl_BitsText.f BT
  simp only [impl_bitsok, Option.bind_some]
  by_cases h : a.length = 16 ∧ b.length = 8
  · simp only [decide_eq_true h, if_true, if_pos h]
    simp only [if_pos (show (8 : Int) ≤ (a.length : Int) by omega)]
    obtain ⟨e1, l1, u1⟩ := impl_packed_ev (a.take 8) (by simp; omega)
    obtain ⟨e2, l2, u2⟩ := impl_packed_ev (a.drop 8) (by simp; omega)
    obtain ⟨e3, l3, u3⟩ := impl_packed_ev b h.2
    refine Ev.bind e1 (Ev.bind e2 (Ev.bind e3 (Ev.bind (bytetexts_ev _ (by simp)) (Ev.now' fun _ => ?_))))
    simp only [List.map_cons, List.map_nil]
    rw [show pv (a.take 8) % 256 = pv (a.take 8) by omega, show pv (a.drop 8) % 256 = pv (a.drop 8) by omega, show pv b % 256 = pv b by omega]
  · simp only [decide_eq_false h, if_neg h]
    exact Ev.now' fun _ => rfl

theorem spec_bitsok (a b : List Bool) : spec_BitsOk.f a b = some (decide (a.length = 16 ∧ b.length = 8)) := by
  unfold spec_BitsOk.f
  by_cases h1 : a.length = 16
  · by_cases h2 : b.length = 8
    · simp [h1, h2]
    · have : ((b.length : Int) == 8) = false := beq_eq_false_iff_ne.2 (by omega)
      simp [h1, h2, this]
  · have : ¬ (a.length : Int) = 16 := by omega
    simp [h1, this]

/-- Bit i of a byte. -/
def bitOf (c : Int) (i : Nat) : Bool := (c.toNat / 2 ^ i) % 2 == 1
/-- The eight bits of a byte. -/
def ub (c : Int) : List Bool := [bitOf c 0, bitOf c 1, bitOf c 2, bitOf c 3, bitOf c 4, bitOf c 5, bitOf c 6, bitOf c 7]
/-- What both ReadBits answer. -/
def RB (s : ByteArray) : List Bool × List Bool × Bool := if s.size = 3 then (ub (bt s 0) ++ ub (bt s 1), ub (bt s 2), true) else ([], [], false)
theorem unpacked_all : ∀ n : Fin 256, impl_unpacked.f 10 ((n.val : Nat) : Int) = some (ub ((n.val : Nat) : Int)) := by decide +kernel
theorem unpacked_ev (c : Int) (h0 : 0 ≤ c) (h1 : c ≤ 255) : Ev (fun k => impl_unpacked.f k c) (ub c) := by
  have h := unpacked_all ⟨c.toNat, by omega⟩
  rw [Int.toNat_of_nonneg h0] at h
  exact Ev.of (fun k => impl_unpacked.mono _ k) h
theorem rb_len (s : ByteArray) : (RB s).1.length ≤ 1048576 ∧ (RB s).2.1.length ≤ 1048576 := by
  unfold RB
  split <;> simp [ub]
theorem impl_readbits (s : ByteArray) : Ev (fun k => impl_ReadBits.f k s) (RB s) := by
  unfold impl_ReadBits.f RB
  by_cases h : s.size = 3
  · have hs : (s.size : Int) = 3 := by omega
    simp only [if_pos h, if_pos hs]
    simp only [if_pos (show (0 : Int) < (s.size : Int) by omega), if_pos (show (1 : Int) < (s.size : Int) by omega), if_pos (show (2 : Int) < (s.size : Int) by omega)]
    have b0 := bt_range s 0
    have b1 := bt_range s 1
    have b2 := bt_range s 2
    refine Ev.bind (unpacked_ev _ b0.1 b0.2) (Ev.bind (unpacked_ev _ b1.1 b1.2) ?_)
    simp only [if_pos (show (ub (bt s 0)).length + (ub (bt s 1)).length < 140737488355328 by simp [ub])]
    exact Ev.bind (unpacked_ev _ b2.1 b2.2) (Ev.now _)
  · exact Ev.now' fun k => by rw [if_neg (by omega), if_neg h]

theorem bt_str (xs : List Int) (i : Nat) (hi : i < xs.length) (h : ∀ x ∈ xs, 0 ≤ x ∧ x ≤ 255) : bt (strOfNums xs) (i : Int) = xs.getD i 0 := by
  unfold bt
  have hs := strOfNums_size xs
  rw [dif_pos (by rw [Int.toNat_natCast, hs]; exact hi)]
  have e : (strOfNums xs)[((i : Int)).toNat]'(by rw [Int.toNat_natCast, hs]; exact hi) = UInt8.ofNat (xs[i]).toNat := by
    show (strOfNums xs).data[((i : Int)).toNat]'_ = _
    have := strOfNums_data xs
    simp only [strOfNums, Int.toNat_natCast, List.getElem_toArray, List.getElem_map]
  have hx := h (xs[i]) (List.getElem_mem hi)
  rw [e, List.getD_eq_getElem?_getD, List.getElem?_eq_getElem hi, Option.getD_some, UInt8.toNat_ofNat']
  omega
theorem str_three (s : ByteArray) (h : s.size = 3) : strOfNums [bt s 0, bt s 1, bt s 2] = s := by
  apply toList_inj
  rw [Go.Lib.toList_data, Go.Lib.toList_data, strOfNums_data]
  have hl : s.data.toList.length = 3 := by rw [Array.length_toList]; exact h
  have hb : ∀ i : Nat, (hi : i < 3) → UInt8.ofNat (bt s (i : Int)).toNat = s.data.toList[i]'(by omega) := fun i hi => by
    unfold bt
    rw [dif_pos (by rw [Int.toNat_natCast]; omega)]
    simp only [Int.toNat_natCast]
    rw [UInt8.ofNat_toNat]
    rfl
  match hs : s.data.toList, hl with
  | [a, b, c], _ =>
    have h0 := hb 0 (by omega)
    have h1 := hb 1 (by omega)
    have h2 := hb 2 (by omega)
    simp only [hs] at h0 h1 h2
    simp only [List.map_cons, List.map_nil, List.cons.injEq, and_true]
    exact ⟨h0, h1, h2⟩

theorem ub_pv (l : List Bool) (h : l.length = 8) : ub (pv l) = l := by
  have key : ∀ a b c d e f g i : Bool, ub (pv [a, b, c, d, e, f, g, i]) = [a, b, c, d, e, f, g, i] := by decide +kernel
  obtain ⟨a, b, c, d, e, f, g, i, rfl⟩ := eight_of h
  exact key a b c d e f g i
theorem pv_ub (c : Int) (h0 : 0 ≤ c) (h1 : c ≤ 255) : pv (ub c) = c := by
  have key : ∀ n : Fin 256, pv (ub ((n.val : Nat) : Int)) = ((n.val : Nat) : Int) := by decide +kernel
  have := key ⟨c.toNat, by omega⟩
  simp only at this
  rwa [show ((c.toNat : Nat) : Int) = c by omega] at this
theorem l05_l1 (s : List Int) (hs : s.length ≤ 140737488351232) (d : Nat) : ∀ (A B : List Bool) (j : Nat) (i h : Int), j ≤ 8 → 8 - j = d → A.length = 16 → B.length = 8 → 0 ≤ i → i ≤ s.length → ∃ a b i' h', Ev (fun k => spec_l05Bits.l1 k (j : Int) s i h A B) (a, b, i', h') := by
  induction d with
  | zero =>
    intro A B j i h j8 hd hA hB h0 h1
    obtain ⟨c, i1, g1, e1, a0, a1⟩ := once_some s hs i h 10 h0 h1
    obtain ⟨c2, i2, g2, e2, b0, b1⟩ := once_some s hs i1 g1 10 a0 a1
    cases c with
    | true =>
      cases c2 with
      | true => exact ⟨A.drop 1, B ++ [true], i2, g2, Ev.last (fun k => by
          simp only [spec_l05Bits.l1, e1, e2, Option.bind_some, if_true]
          rw [if_neg (by omega), if_pos (by omega), if_pos (by omega)]
          rfl)⟩
      | false => exact ⟨A.drop 1, B, i2, g2, Ev.last (fun k => by
          simp only [spec_l05Bits.l1, e1, e2, Option.bind_some, if_true]
          rw [if_neg (by omega), if_pos (by omega)]
          rfl)⟩
    | false =>
      cases c2 with
      | true => exact ⟨A, B ++ [true], i2, g2, Ev.last (fun k => by
          simp only [spec_l05Bits.l1, e1, e2, Option.bind_some, if_true, Bool.false_eq_true, if_false]
          rw [if_neg (by omega), if_pos (by omega)])⟩
      | false => exact ⟨A, B, i2, g2, Ev.last (fun k => by
          simp only [spec_l05Bits.l1, e1, e2, Option.bind_some, Bool.false_eq_true, if_false]
          rw [if_neg (by omega)])⟩
  | succ d ih =>
    intro A B j i h j8 hd hA hB h0 h1
    have hw : wrap64 ((j : Int) + 1) = ((j + 1 : Nat) : Int) := by rw [w64 (by omega) (by omega)]; omega
    obtain ⟨c, i1, g1, e1, a0, a1⟩ := once_some s hs i h 2 h0 h1
    obtain ⟨a, b, i', h', hr⟩ := ih A (B.set j c) (j + 1) i1 g1 (by omega) (by omega) hA (by rw [List.length_set]; exact hB) a0 a1
    refine ⟨a, b, i', h', Ev.step (fun k => ?_) hr⟩
    simp only [spec_l05Bits.l1]
    rw [if_pos (by omega), e1]
    simp only [Option.bind_some, hw]
    rw [if_pos (by omega)]
    rfl
theorem l05_l0 (s : List Int) (hs : s.length ≤ 140737488351232) (d : Nat) : ∀ (A B : List Bool) (j : Nat) (i h : Int), j ≤ 16 → 16 - j = d → A.length = 16 → B.length = 8 → 0 ≤ i → i ≤ s.length → ∃ a b i' h', Ev (fun k => spec_l05Bits.l0 k (j : Int) s i h A B) (a, b, i', h') := by
  induction d with
  | zero =>
    intro A B j i h j8 hd hA hB h0 h1
    obtain ⟨a, b, i', h', hr⟩ := l05_l1 s hs 8 A B 0 i h (by omega) (by omega) hA hB h0 h1
    refine ⟨a, b, i', h', Ev.step (fun k => ?_) hr⟩
    simp only [spec_l05Bits.l0]
    rw [if_neg (by omega)]
    rfl
  | succ d ih =>
    intro A B j i h j8 hd hA hB h0 h1
    have hw : wrap64 ((j : Int) + 1) = ((j + 1 : Nat) : Int) := by rw [w64 (by omega) (by omega)]; omega
    obtain ⟨c, i1, g1, e1, a0, a1⟩ := once_some s hs i h 2 h0 h1
    obtain ⟨a, b, i', h', hr⟩ := ih (A.set j c) B (j + 1) i1 g1 (by omega) (by omega) (by rw [List.length_set]; exact hA) hB a0 a1
    refine ⟨a, b, i', h', Ev.step (fun k => ?_) hr⟩
    simp only [spec_l05Bits.l0]
    rw [if_pos (by omega), e1]
    simp only [Option.bind_some, hw]
    rw [if_pos (by omega)]
    rfl
theorem rb_bt (A B : List Bool) (h : A.length = 16 ∧ B.length = 8) : RB (BT A B).1 = (A, B, true) := by
  have h1 : (A.take 8).length = 8 := by simp; omega
  have h2 : (A.drop 8).length = 8 := by simp; omega
  obtain ⟨_, p1⟩ := impl_packed_ev _ h1
  obtain ⟨_, p2⟩ := impl_packed_ev _ h2
  obtain ⟨_, p3⟩ := impl_packed_ev _ h.2
  have hr : ∀ x ∈ [pv (A.take 8), pv (A.drop 8), pv B], 0 ≤ x ∧ x ≤ 255 := fun x hx => by
    simp only [List.mem_cons, List.not_mem_nil, or_false] at hx
    rcases hx with rfl | rfl | rfl <;> assumption
  have b0 := bt_str _ 0 (by simp) hr
  have b1 := bt_str _ 1 (by simp) hr
  have b2 := bt_str _ 2 (by simp) hr
  have e : (BT A B).1 = strOfNums [pv (A.take 8), pv (A.drop 8), pv B] := by unfold BT; rw [if_pos h]
  rw [e]
  unfold RB
  rw [if_pos (by rw [strOfNums_size]; rfl)]
  have c0 : bt (strOfNums [pv (A.take 8), pv (A.drop 8), pv B]) 0 = pv (A.take 8) := b0
  have c1 : bt (strOfNums [pv (A.take 8), pv (A.drop 8), pv B]) 1 = pv (A.drop 8) := b1
  have c2 : bt (strOfNums [pv (A.take 8), pv (A.drop 8), pv B]) 2 = pv B := b2
  rw [c0, c1, c2, ub_pv _ h1, ub_pv _ h2, ub_pv _ h.2, List.take_append_drop]
theorem bt_rb (t : ByteArray) (h : t.size = 3) : BT (RB t).1 (RB t).2.1 = (t, true) := by
  have r0 := bt_range t 0
  have r1 := bt_range t 1
  have r2 := bt_range t 2
  unfold RB
  rw [if_pos h]
  unfold BT
  have l8 : ∀ c, (ub c).length = 8 := fun c => rfl
  rw [if_pos ⟨by rw [List.length_append, l8, l8], l8 _⟩]
  have e1 : (ub (bt t 0) ++ ub (bt t 1)).take 8 = ub (bt t 0) := by rw [List.take_append_of_le_length (by rw [l8]; omega), List.take_of_length_le (by rw [l8]; omega)]
  have e2 : (ub (bt t 0) ++ ub (bt t 1)).drop 8 = ub (bt t 1) := by rw [List.drop_append_of_le_length (by rw [l8]; omega), List.drop_of_length_le (by rw [l8]; omega), List.nil_append]
  simp only [e1, e2]
  rw [pv_ub _ r0.1 r0.2, pv_ub _ r1.1 r1.2, pv_ub _ r2.1 r2.2, str_three t h]
theorem fnbits_end (A B X Y : List Bool) (ok right : Bool) (i : Int) : Ev (fun k => laws_FnBits.j2 k ok right i false A B X Y) true := by
  refine Ev.last (fun k => ?_)
  simp only [laws_FnBits.j2]
  rfl
theorem fnbits_loop (A B Y : List Bool) (hA : A.length = 16) (d : Nat) : ∀ i : Nat, i ≤ 16 → 16 - i = d → Ev (fun k => laws_FnBits.l0 k true true (i : Int) A B A Y) true := by
  induction d with
  | zero =>
    intro i hi hd
    refine Ev.step (fun k => ?_) (fnbits_end A B A Y true true (i : Int))
    simp only [laws_FnBits.l0]
    rw [if_neg (by omega)]
  | succ d ih =>
    intro i hi hd
    have hw : wrap64 ((i : Int) + 1) = ((i + 1 : Nat) : Int) := by rw [w64 (by omega) (by omega)]; omega
    refine Ev.step (f := fun k => laws_FnBits.j2 k true true (i : Int) true A B A Y) (fun k => ?_) (Ev.step (fun k => ?_) (ih (i + 1) (by omega) (by omega)))
    · simp only [laws_FnBits.l0]
      rw [if_pos (by omega)]
    · simp only [laws_FnBits.j2, if_true]
      rw [if_pos (by omega), if_pos (by omega), if_pos (by omega), if_neg (by simp), hw]
theorem fnbits_no (A B X Y : List Bool) (right : Bool) : Ev (fun k => laws_FnBits.l0 k false right 0 A B X Y) true := by
  refine Ev.step (f := fun k => laws_FnBits.j2 k false right 0 false A B X Y) (fun k => ?_) (fnbits_end A B X Y false right 0)
  simp only [laws_FnBits.l0]
  split <;> rfl
set_option maxHeartbeats 1000000 in
theorem FnBits : laws_FnBits.Pure := by
  intro s hm hs _
  have hs' : s.length ≤ 140737488351232 := by omega
  unfold laws_FnBits.f
  by_cases hb : (s.length : Int) > 1048576
  · refine ⟨0, ?_⟩
    rw [big_eq, decide_eq_true hb]
    rfl
  · obtain ⟨h0, hnew⟩ := new_ev s hs'
    rw [big_eq, decide_eq_false hb]
    simp only [Option.bind_some, Bool.false_eq_true, if_false]
    obtain ⟨A, B, hdraw⟩ : ∃ A B, Ev (fun k => spec_DrawBitsText.f k s) (A, B) := by
      obtain ⟨a, b, i', h', hr⟩ := l05_l0 s hs' 16 (List.replicate 16 false) ((List.replicate 8 false).set 0 true) 0 0 h0 (by omega) (by omega) rfl rfl (by omega) (by omega)
      refine ⟨a, b, ?_⟩
      have hl : Ev (fun k => spec_l05Bits.f k s 0 h0) (a, b, i', h') := hr
      unfold spec_DrawBitsText.f
      exact Ev.bind hnew (Ev.bind hl (Ev.now _))
    obtain ⟨t, hdt⟩ : ∃ t, Ev (fun k => spec_DrawReadBits.f k s) t := by
      obtain ⟨n, i1, g1, e1, hn, a0, a1⟩ := pickint_some s hs' 0 h0 [3, 3, 3, 2, 4, 0] (by decide) (by omega) (by omega)
      have hn2 : 0 ≤ n ∧ n ≤ 5000 := by
        simp only [List.mem_cons, List.not_mem_nil, or_false] at hn
        omega
      obtain ⟨t, i2, g2, ht, _⟩ := text_ev s hs' i1 g1 n hn2.1 hn2.2 a0 a1
      refine ⟨t, ?_⟩
      unfold spec_DrawReadBits.f
      refine Ev.bind hnew ?_
      simp only [e1, Option.bind_some]
      exact Ev.bind ht (Ev.now _)
    refine Ev.rounds (Ev.bind hdraw (Ev.bind (impl_bitstext A B) (Ev.bind (impl_readbits (BT A B).1) (Ev.bind hdt (Ev.bind (impl_readbits t) (Ev.bind (impl_bitstext (RB t).1 (RB t).2.1) ?_))))))
    have hok : (BT A B).2 = decide (A.length = 16 ∧ B.length = 8) := by
      unfold BT
      by_cases h : A.length = 16 ∧ B.length = 8
      · rw [if_pos h, decide_eq_true h]
      · rw [if_neg h, decide_eq_false h]
    have hfin : Ev (fun k => laws_FnBits.j0 k (BT A B).2 (RB (BT A B).1).2.2 false A B (RB (BT A B).1).1 (RB (BT A B).1).2.1) true := by
      refine Ev.step (f := fun k => laws_FnBits.l0 k (BT A B).2 (RB (BT A B).1).2.2 0 A B (RB (BT A B).1).1 (RB (BT A B).1).2.1) (fun k => by simp only [laws_FnBits.j0]; rfl) ?_
      by_cases h : A.length = 16 ∧ B.length = 8
      · rw [hok, decide_eq_true h, rb_bt A B h]
        exact fnbits_loop A B B h.1 16 0 (by omega) (by omega)
      · rw [hok, decide_eq_false h]
        exact fnbits_no _ _ _ _ _
    simp only [spec_bitsok, impl_bitsok, Option.bind_some, hok, bne_self_eq_false, Bool.false_eq_true, if_false]
    rw [hok] at hfin
    by_cases h3 : t.size = 3
    · have e3 : (RB t).2.2 = true := by unfold RB; rw [if_pos h3]
      have e4 : ((t.size : Int) == 3) = true := beq_iff_eq.2 (by omega)
      rw [bt_rb t h3, e3, e4]
      simp only [bne_self_eq_false, Bool.false_eq_true, if_false, if_true]
      exact hfin
    · have e3 : (RB t).2.2 = false := by unfold RB; rw [if_neg h3]
      have e4 : ((t.size : Int) == 3) = false := beq_eq_false_iff_ne.2 (by omega)
      rw [e3, e4]
      simp only [bne_self_eq_false, Bool.false_eq_true, if_false]
      exact hfin
end Go.Proofs.Ytfkjjehkngmgaaa.Pure
