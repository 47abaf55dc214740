/- FnExactBitsText: for every Bits the program's BitsText answers what the reference's does, and leaves its argument as it was; no condition. -/
import Derived.Test.YtfkjjehkngmgaaaPFnExactBitsTextx3
import Derived.Test.YtfkjjehkngmgaaaAid
namespace Go.Proofs.Ytfkjjehkngmgaaa.Pure
open Go.RowKit Go.Proofs.Ytfkjjehkngmgaaa.PFnExactBitsText Go.Proofs.YtfkjjehkngmgaaaW.PrintWords Go.Proofs.YtfkjjehkngmgaaaW.PrintLast Go.Proofs.YtfkjjehkngmgaaaW.PrintMore Go.Proofs.Ytfkjjehkngmgaaa.Aid
set_option linter.unusedVariables false
set_option linter.unusedSimpArgs false

theorem laws_szBoolS_eq (l : List (Bool)) (a : Int) (hl : l.length ≤ 140737488355328) (h0 : 0 ≤ a) (h1 : a ≤ 1048576) : laws_szBoolS.f l a = some (if a - l.length < 0 then -1 else a - l.length) := by
  unfold laws_szBoolS.f
  rw [w64 (by omega) (by omega)]
  split <;> rfl

theorem szBits_eq (a b : List Bool) (m : Int) (ha : a.length ≤ 140737488355328) (hb : b.length ≤ 140737488355328) (m0 : 0 ≤ m) (m1 : m ≤ 1048576) : ∃ r, laws_szBits.f a b m = some r ∧ r ≤ m ∧ (0 ≤ r → a.length ≤ 1048576 ∧ b.length ≤ 1048576) := by
  unfold laws_szBits.f
  rw [laws_szBoolS_eq a m (by omega) m0 m1]
  simp only [Option.bind_some]
  by_cases h1 : m - a.length < 0
  · exact ⟨-1, by simp [h1], by omega, fun h => by omega⟩
  · rw [if_neg h1, if_neg h1, laws_szBoolS_eq b _ (by omega) (by omega) (by omega)]
    simp only [Option.bind_some]
    by_cases h2 : m - a.length - b.length < 0
    · exact ⟨-1, by simp [h2], by omega, fun h => by omega⟩
    · exact ⟨m - a.length - b.length, by simp [h2], by omega, fun h => by omega⟩

theorem laws_toBoolS_loop (l : List (Bool)) (hl : l.length ≤ 1048576) (d : Nat) : ∀ (y : List (Bool)) (i : Int), 0 ≤ i → i ≤ l.length → (l.length : Int) - i = d → y.length = l.length → y.take i.toNat = l.take i.toNat → Ev (fun k => laws_toBoolS.l0 k l y i) l := by
  induction d with
  | zero =>
    intro y i h0 h1 hd hy ht
    have e : y = l := take_all hy (by rw [show l.length = i.toNat by omega]; exact ht)
    subst e
    exact Ev.last (fun k => by simp only [laws_toBoolS.l0]; rw [if_neg (by omega)])
  | succ d ih =>
    intro y i h0 h1 hd hy ht
    have hw : wrap64 (i + 1) = i + 1 := w64 (by omega) (by omega)
    have hs := set_take l y false i.toNat (by omega) hy ht
    refine Ev.step (fun k => ?_) (ih (y.set i.toNat (l.getD i.toNat false)) (i + 1) (by omega) (by omega) (by omega) (by rw [List.length_set]; exact hy) (by rw [toNat_succ h0]; exact hs))
    simp only [laws_toBoolS.l0]
    rw [if_pos (by omega), if_pos h0, if_pos (by omega), hw]
    rfl
theorem laws_toBoolS_ev (l : List (Bool)) (hl : l.length ≤ 1048576) : Ev (fun k => laws_toBoolS.f k l) l := by
  have h := laws_toBoolS_loop l hl l.length (List.replicate l.length false) 0 (by omega) (by omega) (by omega) (by simp) (by simp)
  refine Ev.congr (fun k => ?_) h
  unfold laws_toBoolS.f
  rw [if_pos (by omega), if_pos (by omega)]
  rfl

theorem toBits_ev (a b : List Bool) (ha : a.length ≤ 1048576) (hb : b.length ≤ 1048576) : Ev (fun k => laws_toBits.f k a b) (a, b) := by
  unfold laws_toBits.f
  exact Ev.bind (laws_toBoolS_ev a ha) (Ev.bind (laws_toBoolS_ev b hb) (Ev.now _))

theorem laws_eqBoolS_loop (l : List (Bool)) (hl : l.length ≤ 1048576) (d : Nat) : ∀ (i : Int), 0 ≤ i → i ≤ l.length → (l.length : Int) - i = d → Ev (fun k => laws_eqBoolS.l0 k l l i) true := by
  induction d with
  | zero =>
    intro i h0 h1 hd
    exact Ev.last (fun k => by simp only [laws_eqBoolS.l0]; rw [if_neg (by omega)])
  | succ d ih =>
    intro i h0 h1 hd
    have hw : wrap64 (i + 1) = i + 1 := w64 (by omega) (by omega)
    refine Ev.step (fun k => ?_) (ih (i + 1) (by omega) (by omega) (by omega))
    simp only [laws_eqBoolS.l0]
    rw [if_pos (by omega), if_pos h0, if_pos (by omega), hw]
    simp
theorem laws_eqBoolS_refl (l : List (Bool)) (hl : l.length ≤ 1048576) : Ev (fun k => laws_eqBoolS.f k l l) true := by
  refine Ev.congr (fun k => ?_) (laws_eqBoolS_loop l hl l.length 0 (by omega) (by omega) (by omega))
  unfold laws_eqBoolS.f
  rw [if_pos rfl]

theorem eqBits_ev (a b : List Bool) (ha : a.length ≤ 1048576) (hb : b.length ≤ 1048576) : Ev (fun k => laws_eqBits.f k a b a b) true := by
  unfold laws_eqBits.f
  exact Ev.bind (laws_eqBoolS_refl a ha) (Ev.bind (laws_eqBoolS_refl b hb) (Ev.now _))

/-- Eight bits' number. -/
def pv (l : List Bool) : Int := l.foldr (fun b n => (if b then 1 else 0) + 2 * n) 0
theorem eight_of {l : List Bool} (h : l.length = 8) : ∃ a b c d e f g i, l = [a, b, c, d, e, f, g, i] := by
  match l, h with
  | [a, b, c, d, e, f, g, i], _ => exact ⟨a, b, c, d, e, f, g, i, rfl⟩
theorem packed_all : ∀ a b c d e f g i : Bool, impl_packed.f 10 [a, b, c, d, e, f, g, i] = some (pv [a, b, c, d, e, f, g, i]) ∧ 0 ≤ pv [a, b, c, d, e, f, g, i] ∧ pv [a, b, c, d, e, f, g, i] ≤ 255 := by decide +kernel
theorem impl_packed_ev (l : List Bool) (h : l.length = 8) : Ev (fun k => impl_packed.f k l) (pv l) ∧ 0 ≤ pv l ∧ pv l ≤ 255 := by
  obtain ⟨a, b, c, d, e, f, g, i, rfl⟩ := eight_of h
  obtain ⟨h2, h3⟩ := packed_all a b c d e f g i
  exact ⟨Ev.of (fun k => impl_packed.mono _ k) h2, h3⟩

theorem bytetexts_loop (p : List Int) (hp : p.length ≤ 1048576) (d : Nat) : ∀ (l : List Int) (i : Nat), i ≤ p.length → p.length - i = d → l = (p.take i).map (· % 256) → Ev (fun k => impl_byteTexts.l0 k l p (p.length : Int) (i : Int)) (strOfNums (p.map (· % 256))) := by
  induction d with
  | zero =>
    intro l i hi hd hl
    obtain rfl : i = p.length := by omega
    rw [List.take_length] at hl
    subst hl
    exact Ev.last (fun k => by simp only [impl_byteTexts.l0]; rw [if_neg (by omega)])
  | succ d ih =>
    intro l i hi hd hl
    have hlen : l.length = i := by rw [hl]; simp; omega
    refine Ev.step (fun k => ?_) (ih (l ++ [rd p (i : Int) % 256]) (i + 1) (by omega) (by omega) ?_)
    · simp only [impl_byteTexts.l0]
      rw [if_pos (by omega), if_pos (by omega), if_pos (by omega), if_pos (by omega), w64 (x := (i : Int) + 1) (by omega) (by omega)]
      rfl
    · have hr : rd p (i : Int) = p[i] := by
        unfold rd
        rw [Int.toNat_natCast, List.getD_eq_getElem?_getD, List.getElem?_eq_getElem (by omega)]
        rfl
      rw [List.take_succ_eq_append_getElem (by omega), List.map_append, ← hl, hr]
      rfl
theorem bytetexts_ev (p : List Int) (hp : p.length ≤ 1048576) : Ev (fun k => impl_byteTexts.f k p) (strOfNums (p.map (· % 256))) :=
  bytetexts_loop p hp p.length [] 0 (by omega) (by omega) (by simp)
theorem strOfNums_append (xs ys : List Int) : strOfNums xs ++ strOfNums ys = strOfNums (xs ++ ys) := by
  apply toList_inj
  rw [Go.Lib.toList_data, Go.Lib.toList_data, ByteArray.data_append, Array.toList_append, strOfNums_data, strOfNums_data, strOfNums_data, List.map_append]

/-- What both BitsTexts answer. -/
def BT (a b : List Bool) : ByteArray × Bool := if a.length = 16 ∧ b.length = 8 then (strOfNums [pv (a.take 8), pv (a.drop 8), pv b], true) else (⟨#[]⟩, false)
theorem impl_bitsok (a b : List Bool) : impl_BitsOk.f a b = some (decide (a.length = 16 ∧ b.length = 8)) := by
  unfold impl_BitsOk.f
  by_cases h1 : a.length = 16
  · by_cases h2 : b.length = 8
    · simp [h1, h2]
    · have : ((b.length : Int) == 8) = false := beq_eq_false_iff_ne.2 (by omega)
      simp [h1, h2, this]
  · have : ¬ (a.length : Int) = 16 := by omega
    simp [h1, this]
theorem impl_bitstext (a b : List Bool) : Ev (fun k => impl_BitsText.f k a b) (BT a b) := by
  unfold impl_BitsText.f BT
  simp only [impl_bitsok, Option.bind_some]
  by_cases h : a.length = 16 ∧ b.length = 8
  · simp only [decide_eq_true h, if_true, if_pos h]
    simp only [if_pos (show (8 : Int) ≤ (a.length : Int) by omega)]
    obtain ⟨e1, l1, u1⟩ := impl_packed_ev (a.take 8) (by simp; omega)
    obtain ⟨e2, l2, u2⟩ := impl_packed_ev (a.drop 8) (by simp; omega)
    obtain ⟨e3, l3, u3⟩ := impl_packed_ev b h.2
    refine Ev.bind e1 (Ev.bind e2 (Ev.bind e3 (Ev.bind (bytetexts_ev _ (by simp)) (Ev.now' fun _ => ?_))))
    simp only [List.map_cons, List.map_nil]
    rw [show pv (a.take 8) % 256 = pv (a.take 8) by omega, show pv (a.drop 8) % 256 = pv (a.drop 8) by omega, show pv b % 256 = pv b by omega]
  · simp only [decide_eq_false h, if_neg h]
    exact Ev.now' fun _ => rfl

theorem l05_all : ∀ a b c d e f g i : Bool, spec_l05Byte.f 10 [a, b, c, d, e, f, g, i] = some (pv [a, b, c, d, e, f, g, i]) := by decide +kernel
theorem spec_packed_ev (l : List Bool) (h : l.length = 8) : Ev (fun k => spec_l05Byte.f k l) (pv l) := by
  obtain ⟨a, b, c, d, e, f, g, i, rfl⟩ := eight_of h
  exact Ev.of (fun k => spec_l05Byte.mono _ k) (l05_all a b c d e f g i)

theorem spec_bitsok (a b : List Bool) : spec_BitsOk.f a b = some (decide (a.length = 16 ∧ b.length = 8)) := by
  unfold spec_BitsOk.f
  by_cases h1 : a.length = 16
  · by_cases h2 : b.length = 8
    · simp [h1, h2]
    · have : ((b.length : Int) == 8) = false := beq_eq_false_iff_ne.2 (by omega)
      simp [h1, h2, this]
  · have : ¬ (a.length : Int) = 16 := by omega
    simp [h1, this]
theorem spec_bitstext (a b : List Bool) : Ev (fun k => spec_BitsText.f k a b) (BT a b) := by
  unfold spec_BitsText.f BT
  simp only [spec_bitsok, Option.bind_some]
  by_cases h : a.length = 16 ∧ b.length = 8
  · simp only [decide_eq_true h, if_true, if_pos h]
    simp only [if_pos (show (8 : Int) ≤ (a.length : Int) by omega)]
    exact Ev.bind (spec_packed_ev (a.take 8) (by simp; omega)) (Ev.bind (spec_packed_ev (a.drop 8) (by simp; omega)) (Ev.bind (spec_packed_ev b h.2) (Ev.now _)))
  · simp only [decide_eq_false h, if_neg h]
    exact Ev.now' fun _ => rfl

theorem FnExactBitsText : laws_FnExactBitsText.Pure := by
  intro a b hg
  obtain ⟨⟨ha, _⟩, hb, _⟩ := hg
  simp only at ha hb
  obtain ⟨r, hr, _, hlim⟩ := szBits_eq a b 1048576 (by omega) (by omega) (by omega) (by omega)
  unfold laws_FnExactBitsText.f
  rw [hr]
  simp only [Option.bind_some]
  by_cases h : r < 0
  · exact ⟨0, by simp [h]⟩
  · simp only [if_neg h]
    obtain ⟨ha', hb'⟩ := hlim (by omega)
    refine Ev.rounds (Ev.bind (toBits_ev a b ha' hb') (Ev.bind (spec_bitstext a b) (Ev.bind (toBits_ev a b ha' hb') (Ev.bind (impl_bitstext a b) ?_))))
    simp only [if_true, bne_self_eq_false]
    refine Ev.step (f := fun k => (laws_toBits.f k a b).bind fun c => (laws_eqBits.f k a b c.1 c.2).bind fun t => if t = true then some true else some false) (fun k => by simp only [laws_FnExactBitsText.j0]; rfl) ?_
    exact Ev.bind (toBits_ev a b ha' hb') (Ev.bind (eqBits_ev a b ha' hb') (Ev.now _))
end Go.Proofs.Ytfkjjehkngmgaaa.Pure
