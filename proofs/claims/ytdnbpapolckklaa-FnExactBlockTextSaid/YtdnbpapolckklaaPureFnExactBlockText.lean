/- FnExactBlockText: for every Block the program's BlockText answers what the reference's does, and leaves its argument as it was; no condition. -/
import Derived.Test.YtdnbpapolckklaaPFnExactBlockTextx7
import Derived.Test.YtdnbpapolckklaaAid
namespace Go.Proofs.Ytdnbpapolckklaa.Pure
open Go.RowKit Go.Proofs.Ytdnbpapolckklaa.PFnExactBlockText Go.Proofs.YtdnbpapolckklaaW.PrintWords Go.Proofs.YtdnbpapolckklaaW.PrintLast Go.Proofs.YtdnbpapolckklaaW.PrintMore Go.Proofs.Ytdnbpapolckklaa.Aid
set_option linter.unusedVariables false
set_option linter.unusedSimpArgs false

/-- The program's slot of a law's slot. -/
def cvS (x : S151) : S69 := ⟨x.f0, x.f1⟩
def SLim (x : S151) : Prop := x.f0.size ≤ 1048576
theorem szSlot_ev (x : S151) (a : Int) (hg : good151 x) (a0 : 0 ≤ a) (a1 : a ≤ 1048576) : ∃ r, Ev (fun _ => laws_szSlot.f x.f0 x.f1 a) r ∧ r ≤ a ∧ (r < 0 → r = -1) ∧ (0 ≤ r → SLim x) := by
  have hs := hg.1
  have hw : wrap64 (a - (x.f0.size : Int)) = a - x.f0.size := w64 (by omega) (by omega)
  unfold laws_szSlot.f SLim
  rw [hw]
  by_cases h : a - (x.f0.size : Int) < 0
  · exact ⟨-1, Ev.now' fun _ => by rw [if_pos h], by omega, fun _ => rfl, fun h => by omega⟩
  · exact ⟨a - x.f0.size, Ev.now' fun _ => by rw [if_neg h], by omega, by omega, fun _ => by omega⟩
theorem toSlot_ev (x : S151) (_ : True) : Ev (fun _ => laws_toSlot.f x.f0 x.f1) (x.f0, x.f1) := Ev.now _
theorem eqSlot_ev (x : S69) (_ : True) : Ev (fun _ => laws_eqSlot.f x.f0 x.f1 x.f0 x.f1) true := Ev.now' fun _ => by
  unfold laws_eqSlot.f
  rw [if_pos rfl, if_pos rfl]

theorem laws_szSlotS_loop (l : List S151) (hl : l.length ≤ 140737488355328) (hg : ∀ x ∈ l, good151 x) (d : Nat) : ∀ (a i : Int), 0 ≤ a → a ≤ 1048576 → 0 ≤ i → i ≤ l.length → (l.length : Int) - i = d → ∃ r, Ev (fun k => laws_szSlotS.l0 k l a i) r ∧ r ≤ a ∧ (r < 0 → r = -1) ∧ (0 ≤ r → ∀ j : Nat, i ≤ j → j < l.length → SLim (l.getD j z151)) := by
  induction d with
  | zero =>
    intro a i a0 a1 h0 h1 hd
    exact ⟨a, Ev.last (fun k => by simp only [laws_szSlotS.l0]; rw [if_neg (by omega)]), by omega, by omega, fun _ j j0 j1 => by omega⟩
  | succ d ih =>
    intro a i a0 a1 h0 h1 hd
    have hw : wrap64 (i + 1) = i + 1 := w64 (by omega) (by omega)
    obtain ⟨t, ht, t1, t2, t3⟩ := szSlot_ev (l.getD i.toNat z151) a (hg _ (getD_mem (xs := l) (i := i.toNat) z151 (by omega))) a0 a1
    have key : ∀ k, laws_szSlotS.l0 (k + 1) l a i = ((fun (k : Nat) (x : S151) (a : Int) => laws_szSlot.f x.f0 x.f1 a) k (l.getD i.toNat z151) a).bind (fun t => if t < 0 then some (-1) else laws_szSlotS.l0 k l t (i + 1)) := fun k => by
      simp only [laws_szSlotS.l0]
      rw [if_pos (by omega), if_pos h0, hw]
      rfl
    by_cases hneg : t < 0
    · exact ⟨-1, Ev.step key (Ev.bind ht (Ev.now' fun _ => by rw [if_pos hneg])), by omega, fun _ => rfl, fun h => by omega⟩
    · obtain ⟨r, hr, h2, h3, h4⟩ := ih t (i + 1) (by omega) (by omega) (by omega) (by omega) (by omega)
      refine ⟨r, Ev.step key (Ev.bind ht (Ev.congr (fun k => by rw [if_neg hneg]) hr)), by omega, h3, fun hr0 j j0 j1 => ?_⟩
      by_cases ej : j = i.toNat
      · subst ej
        exact t3 (by omega)
      · exact h4 hr0 j (by omega) j1
theorem laws_szSlotS_ev (l : List S151) (a : Int) (hl : l.length ≤ 140737488355328) (hg : ∀ x ∈ l, good151 x) (a0 : 0 ≤ a) (a1 : a ≤ 1048576) : ∃ r, Ev (fun k => laws_szSlotS.f k l a) r ∧ r ≤ a ∧ (r < 0 → r = -1) ∧ (0 ≤ r → l.length ≤ 1048576 ∧ ∀ s ∈ l, SLim s) := by
  have hw : wrap64 (a - (l.length : Int)) = a - l.length := w64 (by omega) (by omega)
  by_cases hneg : a - (l.length : Int) < 0
  · exact ⟨-1, Ev.now' fun k => by unfold laws_szSlotS.f; rw [hw, if_pos hneg], by omega, fun _ => rfl, fun h => by omega⟩
  · obtain ⟨r, hr, h2, h3, h4⟩ := laws_szSlotS_loop l hl hg l.length (a - l.length) 0 (by omega) (by omega) (by omega) (by omega) (by omega)
    refine ⟨r, Ev.congr (fun k => ?_) hr, by omega, h3, fun hr0 => ⟨by omega, fun s hs => ?_⟩⟩
    · unfold laws_szSlotS.f
      rw [hw, if_neg hneg]
    · obtain ⟨j, hj, e⟩ := List.mem_iff_getElem.1 hs
      have := h4 hr0 j (by omega) hj
      rw [List.getD_eq_getElem?_getD, List.getElem?_eq_getElem hj] at this
      rw [← e]
      exact this

theorem laws_toSlotS_loop (l : List S151) (hl : l.length ≤ 1048576) (hg : ∀ x ∈ l, (fun _ => True) x) (d : Nat) : ∀ (y : List S69) (i : Int), 0 ≤ i → i ≤ l.length → (l.length : Int) - i = d → y.length = l.length → y.take i.toNat = (l.map cvS).take i.toNat → Ev (fun k => laws_toSlotS.l0 k l y i) (l.map cvS) := by
  induction d with
  | zero =>
    intro y i h0 h1 hd hy ht
    have e : y = l.map cvS := take_all (by simpa using hy) (by rw [List.length_map, show l.length = i.toNat by omega]; exact ht)
    subst e
    exact Ev.last (fun k => by simp only [laws_toSlotS.l0]; rw [if_neg (by omega)])
  | succ d ih =>
    intro y i h0 h1 hd hy ht
    have hw : wrap64 (i + 1) = i + 1 := w64 (by omega) (by omega)
    have hx := toSlot_ev (l.getD i.toNat z151) (hg _ (getD_mem (xs := l) (i := i.toNat) z151 (by omega)))
    have hs := set_take (l.map cvS) y (cvS z151) i.toNat (by rw [List.length_map]; omega) (by simpa using hy) ht
    have hm : (l.map cvS).getD i.toNat (cvS z151) = cvS (l.getD i.toNat z151) := by simp [List.getD_eq_getElem?_getD, List.getElem?_map, List.getElem?_eq_getElem (show i.toNat < l.length by omega)]
    rw [hm] at hs
    have h2 : i < (l.length : Int) := by omega
    have h3 : i < (y.length : Int) := by omega
    have key : ∀ k, laws_toSlotS.l0 (k + 1) l y i = ((fun (k : Nat) (x : S151) => laws_toSlot.f x.f0 x.f1) k (l.getD i.toNat z151)).bind (fun t => laws_toSlotS.l0 k l (y.set i.toNat ((fun t => (⟨t.1, t.2⟩ : S69)) t)) (i + 1)) := fun k => by
      simp only [laws_toSlotS.l0, if_pos h2, if_pos h0, if_pos h3, hw]
      rfl
    exact Ev.step key (Ev.bind hx (ih (y.set i.toNat (cvS (l.getD i.toNat z151))) (i + 1) (by omega) (by omega) (by omega) (by rw [List.length_set]; exact hy) (by rw [toNat_succ h0]; exact hs)))
theorem laws_toSlotS_ev (l : List S151) (hl : l.length ≤ 1048576) (hg : ∀ x ∈ l, (fun _ => True) x) : Ev (fun k => laws_toSlotS.f k l) (l.map cvS) := by
  have h := laws_toSlotS_loop l hl hg l.length (List.replicate l.length z69) 0 (by omega) (by omega) (by omega) (by simp) (by simp)
  refine Ev.congr (fun k => ?_) h
  unfold laws_toSlotS.f
  rw [if_pos (by omega), if_pos (by omega)]
  rfl

theorem laws_eqSlotS_loop (l : List S69) (hl : l.length ≤ 1048576) (hg : ∀ x ∈ l, (fun _ => True) x) (d : Nat) : ∀ (i : Int), 0 ≤ i → i ≤ l.length → (l.length : Int) - i = d → Ev (fun k => laws_eqSlotS.l0 k l l i) true := by
  induction d with
  | zero =>
    intro i h0 h1 hd
    exact Ev.last (fun k => by simp only [laws_eqSlotS.l0]; rw [if_neg (by omega)])
  | succ d ih =>
    intro i h0 h1 hd
    have hw : wrap64 (i + 1) = i + 1 := w64 (by omega) (by omega)
    have h2 : i < (l.length : Int) := by omega
    have hx := eqSlot_ev (l.getD i.toNat z69) (hg _ (getD_mem (xs := l) (i := i.toNat) z69 (by omega)))
    have key : ∀ k, laws_eqSlotS.l0 (k + 1) l l i = ((fun (k : Nat) (x : S69) => laws_eqSlot.f x.f0 x.f1 x.f0 x.f1) k (l.getD i.toNat z69)).bind (fun t => if t = true then laws_eqSlotS.l0 k l l (i + 1) else some false) := fun k => by
      simp only [laws_eqSlotS.l0, if_pos h2, if_pos h0, hw]
      rfl
    exact Ev.step key (Ev.bind hx (Ev.congr (fun k => by rw [if_pos rfl]) (ih (i + 1) (by omega) (by omega) (by omega))))
theorem laws_eqSlotS_refl (l : List S69) (hl : l.length ≤ 1048576) (hg : ∀ x ∈ l, (fun _ => True) x) : Ev (fun k => laws_eqSlotS.f k l l) true := by
  refine Ev.congr (fun k => ?_) (laws_eqSlotS_loop l hl hg l.length 0 (by omega) (by omega) (by omega))
  unfold laws_eqSlotS.f
  rw [if_pos rfl]


theorem szBlock_ev (b : Bool) (l : List S151) (t : ByteArray) (a : Int) (hg : good54 ⟨b, l, t⟩) (a0 : 0 ≤ a) (a1 : a ≤ 1048576) : ∃ r, Ev (fun k => laws_szBlock.f k b l t a) r ∧ r ≤ a ∧ (r < 0 → r = -1) ∧ (0 ≤ r → l.length ≤ 1048576 ∧ (∀ x ∈ l, SLim x) ∧ t.size ≤ 1048576) := by
  obtain ⟨_, ⟨h1, h2⟩, h3⟩ := hg
  simp only at h1 h2 h3
  obtain ⟨r, hr, r1, r2, r3⟩ := laws_szSlotS_ev l a (by omega) h2 a0 a1
  unfold laws_szBlock.f
  by_cases hneg : r < 0
  · exact ⟨-1, Ev.bind hr (Ev.now' fun _ => by rw [if_pos hneg]), by omega, fun _ => rfl, fun h => by omega⟩
  · have hw : wrap64 (r - (t.size : Int)) = r - t.size := w64 (by omega) (by omega)
    by_cases h : r - (t.size : Int) < 0
    · exact ⟨-1, Ev.bind hr (Ev.now' fun _ => by rw [if_neg hneg, hw, if_pos h]), by omega, fun _ => rfl, fun h => by omega⟩
    · exact ⟨r - t.size, Ev.bind hr (Ev.now' fun _ => by rw [if_neg hneg, hw, if_neg h]), by omega, by omega, fun _ => ⟨(r3 (by omega)).1, (r3 (by omega)).2, by omega⟩⟩
theorem toBlock_ev (b : Bool) (l : List S151) (t : ByteArray) (hl : l.length ≤ 1048576) : Ev (fun k => laws_toBlock.f k b l t) (b, l.map cvS, t) := by
  unfold laws_toBlock.f
  exact Ev.bind (laws_toSlotS_ev l hl (fun _ _ => trivial)) (Ev.now _)
theorem eqBlock_ev (b : Bool) (l : List S69) (t : ByteArray) (hl : l.length ≤ 1048576) : Ev (fun k => laws_eqBlock.f k b l t b l t) true := by
  unfold laws_eqBlock.f
  simp only [bne_self_eq_false, Bool.false_eq_true, if_false]
  exact Ev.bind (laws_eqSlotS_refl l hl (fun _ _ => trivial)) (Ev.now' fun _ => by simp)

theorem in_eq (a b c : Int) : spec_l01In.f a b c = some (decide (b ≤ a ∧ a ≤ c)) := by
  unfold spec_l01In.f
  by_cases h : a ≥ b
  · rw [if_pos h]
    simp [show b ≤ a from h]
  · rw [if_neg h]
    simp [show ¬ b ≤ a from h]

theorem within_eq (a b c : Int) : impl_within.f a b c = some (decide (b ≤ a ∧ a ≤ c)) := by
  unfold impl_within.f
  by_cases h : a ≥ b
  · rw [if_pos h]
    simp [show b ≤ a from h]
  · rw [if_neg h]
    simp [show ¬ b ≤ a from h]

theorem name_ev (s : ByteArray) (hs : s.size ≤ 140737488351232) : ∃ r, Ev (fun k => spec_NameOk.f k s) r ∧ Ev (fun k => impl_NameOk.f k s) r ∧ (r = true → 1 ≤ s.size ∧ s.size ≤ 6) := by
  have loop : ∀ (d : Nat) (i : Int), 0 ≤ i → i ≤ s.size → (s.size : Int) - i = d → ∃ r, Ev (fun k => spec_NameOk.l0 k s i) r ∧ Ev (fun k => impl_NameOk.l0 k s (s.size : Int) i) r ∧ (r = true → 1 ≤ s.size ∧ s.size ≤ 6) := by
    intro d
    induction d with
    | zero =>
      intro i h0 h1 hd
      refine ⟨decide (1 ≤ (s.size : Int) ∧ (s.size : Int) ≤ 6), Ev.last fun k => ?_, Ev.last fun k => ?_, fun h => ?_⟩
      · simp only [spec_NameOk.l0]
        rw [if_neg (by omega), in_eq]
        rfl
      · simp only [impl_NameOk.l0]
        rw [if_neg (by omega), within_eq]
        rfl
      · have := of_decide_eq_true h
        omega
    | succ d ih =>
      intro i h0 h1 hd
      have hi : i < (s.size : Int) := by omega
      have hw : wrap64 (i + 1) = i + 1 := w64 (by omega) (by omega)
      have hb := bt_range s i
      have hwb : wrap64 (bt s i) = bt s i := w64 (by omega) (by omega)
      obtain ⟨r, hr1, hr2, hr3⟩ := ih (i + 1) (by omega) (by omega) (by omega)
      have es : ∀ k, spec_NameOk.l0 (k + 1) s i = if (97 ≤ bt s i ∧ bt s i ≤ 122) ∨ (48 ≤ bt s i ∧ bt s i ≤ 57) then spec_NameOk.l0 k s (i + 1) else some false := fun k => by
        simp only [spec_NameOk.l0]
        rw [if_pos hi, if_pos h0, hw]
        split <;> split <;> (try split) <;> (try split) <;> (try split) <;> first | rfl | omega
      have ei : ∀ k, impl_NameOk.l0 (k + 1) s (s.size : Int) i = if (97 ≤ bt s i ∧ bt s i ≤ 122) ∨ (48 ≤ bt s i ∧ bt s i ≤ 57) then impl_NameOk.l0 k s (s.size : Int) (i + 1) else some false := fun k => by
        simp only [impl_NameOk.l0]
        rw [if_pos hi, if_pos h0, if_pos hi, hw, hwb, within_eq, within_eq]
        simp only [Option.bind_some, decide_eq_true_eq]
        split <;> (try split) <;> (try split) <;> first | rfl | omega
      by_cases c : (97 ≤ bt s i ∧ bt s i ≤ 122) ∨ (48 ≤ bt s i ∧ bt s i ≤ 57)
      · exact ⟨r, Ev.step (fun k => by rw [es, if_pos c]) hr1, Ev.step (fun k => by rw [ei, if_pos c]) hr2, hr3⟩
      · exact ⟨false, Ev.last (fun k => by rw [es, if_neg c]), Ev.last (fun k => by rw [ei, if_neg c]), fun h => by simp at h⟩
  exact loop s.size 0 (by omega) (by omega) (by omega)
/-- Whether a text is a right name. -/
noncomputable def nameB (s : ByteArray) : Bool := if h : s.size ≤ 140737488351232 then (name_ev s h).choose else false
theorem nameB_eq (s : ByteArray) (h : s.size ≤ 140737488351232) : nameB s = (name_ev s h).choose := by
  unfold nameB
  rw [dif_pos h]
theorem name_spec (s : ByteArray) (h : s.size ≤ 140737488351232) : Ev (fun k => spec_NameOk.f k s) (nameB s) := by
  rw [nameB_eq s h]
  exact (name_ev s h).choose_spec.1
theorem name_impl (s : ByteArray) (h : s.size ≤ 140737488351232) : Ev (fun k => impl_NameOk.f k s) (nameB s) := by
  rw [nameB_eq s h]
  exact (name_ev s h).choose_spec.2.1
theorem name_size (s : ByteArray) (h : s.size ≤ 140737488351232) (hb : nameB s = true) : 1 ≤ s.size ∧ s.size ≤ 6 := by
  rw [nameB_eq s h] at hb
  exact (name_ev s h).choose_spec.2.2 hb

open Classical in
/-- A proposition as a Bool. -/
noncomputable def dB (p : Prop) : Bool := decide p
theorem dB_true {p : Prop} (h : p) : dB p = true := @decide_eq_true p (Classical.propDecidable p) h
theorem dB_false {p : Prop} (h : ¬ p) : dB p = false := @decide_eq_false p (Classical.propDecidable p) h
theorem dB_congr {p q : Prop} (h : p ↔ q) : dB p = dB q := by rw [propext h]
theorem of_dB {p : Prop} (h : dB p = true) : p := Classical.byContradiction fun hp => by rw [dB_false hp] at h; exact absurd h (by decide)
/-- The slot at j is empty, or right and the first of its name. -/
def SOk (l : List S69) (j : Nat) : Prop := ((l.getD j z69).f0.toList = ([] : List UInt8) ∧ (l.getD j z69).f1 = 0) ∨ (nameB (l.getD j z69).f0 = true ∧ 1 ≤ (l.getD j z69).f1 ∧ (l.getD j z69).f1 ≤ 8 ∧ ∀ k, k < j → ¬ (l.getD k z69).f0.toList = (l.getD j z69).f0.toList)
/-- A right block. -/
def BOk (b : Bool) (l : List S69) (t : ByteArray) : Prop := if b = true then (∀ j, j < l.length → SOk l j) ∧ l.length = 4 ∧ t.toList = ([] : List UInt8) else l.length = 0 ∧ t.size ≤ 16
theorem idx_le (nm : ByteArray) (l : List S69) (k : Nat) (i : Int) (hk : k < l.length) (h : (l.getD k z69).f0.toList = nm.toList) : impl_SlotOf.idx nm l i ≤ i + k := by
  induction l generalizing k i with
  | nil => simp at hk
  | cons x r ih =>
    simp only [impl_SlotOf.idx]
    split
    · omega
    · rename_i hx
      cases k with
      | zero => exact absurd (by simpa using h) hx
      | succ k =>
        have := ih k (i + 1) (by simpa using hk) (by simpa using h)
        omega
theorem idx_self (l : List S69) (j : Nat) (hj : j < l.length) : impl_SlotOf.idx (l.getD j z69).f0 l 0 = (j : Int) ↔ ∀ k, k < j → ¬ (l.getD k z69).f0.toList = (l.getD j z69).f0.toList := by
  constructor
  · intro h k hk e
    have := idx_le (l.getD j z69).f0 l k 0 (by omega) e
    omega
  · intro h
    rw [impl_SlotOf.idx_hit (l.getD j z69).f0 l j 0 hj rfl h]
    omega
theorem toList_ne {s : ByteArray} (h : 1 ≤ s.size) : ¬ s.toList = ([] : List UInt8) := fun e => by
  rw [Go.Lib.toList_data] at e
  have h2 : s.data.toList.length = 0 := by rw [e]; rfl
  rw [Array.length_toList] at h2
  have h3 : s.size = s.data.size := rfl
  omega
theorem spec_block_l1 (b : Bool) (l : List S69) (t : ByteArray) (hl : l.length = 4) (x3 : Nat) (h3 : x3 < 4) (R : Bool) (hR : Ev (fun n => spec_BlockOk.l0 n ((x3 : Int) + 1) b l t) R) (nm : ByteArray) (ino : Int) (d : Nat) : ∀ x5 : Nat, x5 ≤ x3 → x3 - x5 = d → Ev (fun n => spec_BlockOk.l1 n x3 x5 b l t nm ino) (dB ((∀ k, x5 ≤ k → k < x3 → ¬ (l.getD k z69).f0.toList = nm.toList) ∧ R = true)) := by
  induction d with
  | zero =>
    intro x5 h5 hd
    have hw : wrap64 ((x3 : Int) + 1) = (x3 : Int) + 1 := w64 (by omega) (by omega)
    have e : dB ((∀ k, x5 ≤ k → k < x3 → ¬ (l.getD k z69).f0.toList = nm.toList) ∧ R = true) = R := by
      cases R with
      | true => exact dB_true ⟨fun k h h' => by omega, rfl⟩
      | false => exact dB_false (fun h => by simp at h)
    rw [e]
    refine Ev.step (fun n => ?_) hR
    simp only [spec_BlockOk.l1]
    rw [if_neg (by omega), hw]
  | succ d ih =>
    intro x5 h5 hd
    have hw : wrap64 ((x5 : Int) + 1) = ((x5 + 1 : Nat) : Int) := by rw [w64 (by omega) (by omega)]; omega
    have e0 : rd_T69 l (x5 : Int) = l.getD x5 z69 := rfl
    by_cases hit : (l.getD x5 z69).f0.toList = nm.toList
    · rw [dB_false (fun h => h.1 x5 (Nat.le_refl _) (by omega) hit)]
      refine Ev.last (fun n => ?_)
      simp only [spec_BlockOk.l1, e0]
      rw [if_pos (by omega), if_pos (by omega), if_pos (by omega), if_pos hit]
    · have e : dB ((∀ k, x5 ≤ k → k < x3 → ¬ (l.getD k z69).f0.toList = nm.toList) ∧ R = true) = dB ((∀ k, x5 + 1 ≤ k → k < x3 → ¬ (l.getD k z69).f0.toList = nm.toList) ∧ R = true) := dB_congr ⟨fun h => ⟨fun k hk => h.1 k (by omega), h.2⟩, fun h => ⟨fun k hk hk' => by
        by_cases ek : k = x5
        · rw [ek]; exact hit
        · exact h.1 k (by omega) hk', h.2⟩⟩
      rw [e]
      refine Ev.step (fun n => ?_) (ih (x5 + 1) (by omega) (by omega))
      simp only [spec_BlockOk.l1, e0]
      rw [if_pos (by omega), if_pos (by omega), if_pos (by omega), if_neg hit, hw]
theorem spec_block_l0 (b : Bool) (l : List S69) (t : ByteArray) (hl : l.length = 4) (hn : ∀ x ∈ l, x.f0.size ≤ 140737488351232) (d : Nat) : ∀ i : Nat, i ≤ 4 → 4 - i = d → Ev (fun n => spec_BlockOk.l0 n i b l t) (dB (∀ j, i ≤ j → j < 4 → SOk l j)) := by
  induction d with
  | zero =>
    intro i h4 hd
    rw [dB_true (fun j h h' => by omega)]
    refine Ev.last (fun n => ?_)
    simp only [spec_BlockOk.l0]
    rw [if_neg (by omega)]
  | succ d ih =>
    intro i h4 hd
    have hw : wrap64 ((i : Int) + 1) = (i : Int) + 1 := w64 (by omega) (by omega)
    have e0 : rd_T69 l (i : Int) = l.getD i z69 := rfl
    have hi := ih (i + 1) (by omega) (by omega)
    have e1 : ((i + 1 : Nat) : Int) = (i : Int) + 1 := by omega
    rw [e1] at hi
    have hsz := hn _ (getD_mem (xs := l) (i := i) z69 (by omega))
    have split1 : dB (∀ j, i ≤ j → j < 4 → SOk l j) = dB (SOk l i ∧ dB (∀ j, i + 1 ≤ j → j < 4 → SOk l j) = true) := dB_congr ⟨fun h => ⟨h i (Nat.le_refl _) (by omega), dB_true (fun j hj => h j (by omega))⟩, fun h j hj hj' => by
      by_cases ej : j = i
      · rw [ej]; exact h.1
      · exact of_dB h.2 j (by omega) hj'⟩
    rw [split1]
    generalize hR : dB (∀ j, i + 1 ≤ j → j < 4 → SOk l j) = R at hi
    by_cases z : (l.getD i z69).f0.toList = ([] : List UInt8) ∧ (l.getD i z69).f1 = 0
    · have e : dB (SOk l i ∧ R = true) = R := by
        cases R with
        | true => exact dB_true ⟨Or.inl z, rfl⟩
        | false => exact dB_false (fun h => by simp at h)
      rw [e]
      refine Ev.step (f := fun n => spec_BlockOk.j2 n i ((l.getD i z69).f1 == 0) b l t (l.getD i z69).f0 (l.getD i z69).f1) (fun n => ?_) (Ev.step (fun n => ?_) hi)
      · simp only [spec_BlockOk.l0, e0]
        rw [if_pos (by omega), if_pos (by omega), if_pos (by omega), if_pos z.1]
      · simp only [spec_BlockOk.j2]
        rw [if_pos (beq_iff_eq.2 z.2), hw]
    · have hj2 : Ev (fun n => spec_BlockOk.j2 n i false b l t (l.getD i z69).f0 (l.getD i z69).f1) (dB (SOk l i ∧ R = true)) := by
        have key : ∀ n, spec_BlockOk.j2 (n + 1) i false b l t (l.getD i z69).f0 (l.getD i z69).f1 = (spec_NameOk.f n (l.getD i z69).f0).bind (fun r => if r = true then spec_BlockOk.j3 n i (!decide (1 ≤ (l.getD i z69).f1 ∧ (l.getD i z69).f1 ≤ 8)) b l t (l.getD i z69).f0 (l.getD i z69).f1 else spec_BlockOk.j3 n i true b l t (l.getD i z69).f0 (l.getD i z69).f1) := fun n => by
          simp only [spec_BlockOk.j2, in_eq, Option.bind_some, Bool.false_eq_true, if_false]
        have no : ¬ (SOk l i ∧ R = true) → Ev (fun n => spec_BlockOk.j3 n i true b l t (l.getD i z69).f0 (l.getD i z69).f1) (dB (SOk l i ∧ R = true)) := fun h => by
          rw [dB_false h]
          exact Ev.last (fun n => by simp only [spec_BlockOk.j3]; rfl)
        refine Ev.step key (Ev.bind (name_spec _ hsz) ?_)
        by_cases hb : nameB (l.getD i z69).f0 = true
        · refine Ev.congr (fun n => by rw [if_pos hb]) ?_
          by_cases hino : 1 ≤ (l.getD i z69).f1 ∧ (l.getD i z69).f1 ≤ 8
          · have e2 : (!decide (1 ≤ (l.getD i z69).f1 ∧ (l.getD i z69).f1 ≤ 8)) = false := by rw [decide_eq_true hino]; rfl
            rw [e2]
            have e : dB (SOk l i ∧ R = true) = dB ((∀ k, 0 ≤ k → k < i → ¬ (l.getD k z69).f0.toList = (l.getD i z69).f0.toList) ∧ R = true) := dB_congr ⟨fun h => ⟨fun k _ hk => by
              rcases h.1 with h1 | h1
              · exact absurd h1 z
              · exact h1.2.2.2 k hk, h.2⟩, fun h => ⟨Or.inr ⟨hb, hino.1, hino.2, fun k hk => h.1 k (Nat.zero_le _) hk⟩, h.2⟩⟩
            rw [e]
            have := spec_block_l1 b l t hl i (by omega) R hi (l.getD i z69).f0 (l.getD i z69).f1 i 0 (Nat.zero_le _) (by omega)
            refine Ev.step (fun n => ?_) this
            simp only [spec_BlockOk.j3, Bool.false_eq_true, if_false]
            rfl
          · have e2 : (!decide (1 ≤ (l.getD i z69).f1 ∧ (l.getD i z69).f1 ≤ 8)) = true := by rw [decide_eq_false hino]; rfl
            rw [e2]
            exact no (fun h => by
              rcases h.1 with h1 | h1
              · exact z h1
              · exact hino ⟨h1.2.1, h1.2.2.1⟩)
        · refine Ev.congr (fun n => by rw [if_neg hb]) ?_
          exact no (fun h => by
            rcases h.1 with h1 | h1
            · exact z h1
            · exact hb h1.1)
      refine Ev.step (fun n => ?_) hj2
      simp only [spec_BlockOk.l0, e0]
      rw [if_pos (by omega), if_pos (by omega), if_pos (by omega)]
      by_cases e : (l.getD i z69).f0.toList = ([] : List UInt8)
      · rw [if_pos e]
        have : ((l.getD i z69).f1 == 0) = false := beq_eq_false_iff_ne.2 (fun h => z ⟨e, h⟩)
        rw [this]
      · rw [if_neg e]
theorem spec_blockok (b : Bool) (l : List S69) (t : ByteArray) (hn : ∀ x ∈ l, x.f0.size ≤ 140737488351232) : Ev (fun n => spec_BlockOk.f n b l t) (dB (BOk b l t)) := by
  unfold spec_BlockOk.f
  by_cases hb : b = true
  · simp only [if_pos hb]
    have no : ¬ BOk b l t → Ev (fun n => spec_BlockOk.j0 n true b l t) (dB (BOk b l t)) := fun h => by
      rw [dB_false h]
      exact Ev.last (fun n => by simp only [spec_BlockOk.j0]; rfl)
    by_cases h4 : l.length = 4
    · have h4' : (l.length : Int) = 4 := by omega
      simp only [if_pos h4']
      by_cases ht : t.toList = ([] : List UInt8)
      · have e1 : (t.toList != ([] : List UInt8)) = false := bne_eq_false_iff_eq.2 ht
        have e : dB (BOk b l t) = dB (∀ j, 0 ≤ j → j < 4 → SOk l j) := dB_congr (by
          unfold BOk
          rw [if_pos hb]
          exact ⟨fun h j _ hj => h.1 j (by omega), fun h => ⟨fun j hj => h j (Nat.zero_le _) (by omega), h4, ht⟩⟩)
        rw [e, e1]
        refine Ev.step (fun n => ?_) (spec_block_l0 b l t h4 hn 4 0 (by omega) (by omega))
        simp only [spec_BlockOk.j0, Bool.false_eq_true, if_false]
        rfl
      · have e1 : (t.toList != ([] : List UInt8)) = true := bne_iff_ne.2 ht
        rw [e1]
        exact no (fun h => by
          unfold BOk at h
          rw [if_pos hb] at h
          exact ht h.2.2)
    · have h4' : ¬ (l.length : Int) = 4 := by omega
      simp only [if_neg h4']
      exact no (fun h => by
        unfold BOk at h
        rw [if_pos hb] at h
        exact h4 h.2.1)
  · simp only [if_neg hb]
    refine Ev.now' (fun _ => ?_)
    have e : dB (BOk b l t) = dB (l.length = 0 ∧ t.size ≤ 16) := dB_congr (by unfold BOk; rw [if_neg hb])
    rw [e]
    by_cases h0 : l.length = 0
    · rw [if_pos (by omega)]
      by_cases h16 : t.size ≤ 16
      · rw [dB_true ⟨h0, h16⟩, decide_eq_true (by omega)]
      · rw [dB_false (fun h => h16 h.2), decide_eq_false (by omega)]
    · rw [if_neg (by omega), dB_false (fun h => h0 h.1)]
theorem impl_block_loop (b : Bool) (l : List S69) (t : ByteArray) (hl : l.length ≤ 1048576) (hn : ∀ x ∈ l, x.f0.size ≤ 140737488351232) (d : Nat) : ∀ i : Nat, i ≤ l.length → l.length - i = d → Ev (fun n => impl_BlockOk.l0 n l (l.length : Int) i b l t) (dB ((∀ j, i ≤ j → j < l.length → SOk l j) ∧ l.length = 4 ∧ t.toList = ([] : List UInt8))) := by
  induction d with
  | zero =>
    intro i h1 hd
    refine Ev.last (fun n => ?_)
    simp only [impl_BlockOk.l0]
    rw [if_neg (by omega)]
    by_cases h4 : l.length = 4
    · rw [if_pos (by omega)]
      by_cases ht : t.toList = ([] : List UInt8)
      · rw [dB_true ⟨fun j h h' => by omega, h4, ht⟩, beq_iff_eq.2 ht]
      · rw [dB_false (fun h => ht h.2.2), beq_eq_false_iff_ne.2 ht]
    · rw [if_neg (by omega), dB_false (fun h => h4 h.2.1)]
  | succ d ih =>
    intro i h1 hd
    have hw : wrap64 ((i : Int) + 1) = ((i + 1 : Nat) : Int) := by rw [w64 (by omega) (by omega)]; omega
    have e0 : rd_T69 l (i : Int) = l.getD i z69 := rfl
    have hi := ih (i + 1) (by omega) (by omega)
    have hsz := hn _ (getD_mem (xs := l) (i := i) z69 (by omega))
    have yes : SOk l i → dB ((∀ j, i ≤ j → j < l.length → SOk l j) ∧ l.length = 4 ∧ t.toList = ([] : List UInt8)) = dB ((∀ j, i + 1 ≤ j → j < l.length → SOk l j) ∧ l.length = 4 ∧ t.toList = ([] : List UInt8)) := fun h => dB_congr ⟨fun q => ⟨fun j hj => q.1 j (by omega), q.2⟩, fun q => ⟨fun j hj hj' => by
      by_cases ej : j = i
      · rw [ej]; exact h
      · exact q.1 j (by omega) hj', q.2⟩⟩
    have no : ¬ SOk l i → dB ((∀ j, i ≤ j → j < l.length → SOk l j) ∧ l.length = 4 ∧ t.toList = ([] : List UInt8)) = false := fun h => dB_false (fun q => h (q.1 i (Nat.le_refl _) (by omega)))
    by_cases z : (l.getD i z69).f0.toList = ([] : List UInt8) ∧ (l.getD i z69).f1 = 0
    · rw [yes (Or.inl z)]
      refine Ev.step (fun n => ?_) hi
      simp only [impl_BlockOk.l0, e0]
      rw [if_pos (by omega), if_pos (by omega), if_pos (by omega), if_pos (by rw [Bool.and_eq_true, beq_iff_eq, beq_iff_eq]; exact z), hw]
    · have hz : ¬ ((((l.getD i z69).f0).toList) == ([] : List UInt8) && (((l.getD i z69).f1) == 0)) = true := by
        intro h
        rw [Bool.and_eq_true, beq_iff_eq, beq_iff_eq] at h
        exact z h
      have key : ∀ n, impl_BlockOk.l0 (n + 1) l (l.length : Int) i b l t = (impl_NameOk.f n (l.getD i z69).f0).bind (fun r => if r = true then (if (1 ≤ (l.getD i z69).f1 ∧ (l.getD i z69).f1 ≤ 8) then (impl_SlotOf.f b l t (l.getD i z69).f0).bind (fun q => if q = (i : Int) then impl_BlockOk.l0 n l (l.length : Int) ((i + 1 : Nat) : Int) b l t else some false) else some false) else some false) := fun n => by
        simp only [impl_BlockOk.l0, e0, impl_isIno.f, within_eq, Option.bind_some, decide_eq_true_eq]
        rw [if_pos (by omega), if_pos (by omega), if_pos (by omega), if_neg hz, hw]
      refine Ev.step key (Ev.bind (name_impl _ hsz) ?_)
      by_cases hb : nameB (l.getD i z69).f0 = true
      · refine Ev.congr (fun n => by rw [if_pos hb]) ?_
        by_cases hino : 1 ≤ (l.getD i z69).f1 ∧ (l.getD i z69).f1 ≤ 8
        · refine Ev.congr (fun n => by rw [if_pos hino]) ?_
          have hne := toList_ne (name_size _ hsz hb).1
          have hs : impl_SlotOf.f b l t (l.getD i z69).f0 = some (impl_SlotOf.idx (l.getD i z69).f0 l 0) := by
            unfold impl_SlotOf.f
            rw [if_neg hne]
          simp only [hs, Option.bind_some]
          by_cases hx : impl_SlotOf.idx (l.getD i z69).f0 l 0 = (i : Int)
          · have hok : SOk l i := Or.inr ⟨hb, hino.1, hino.2, (idx_self l i (by omega)).1 hx⟩
            rw [yes hok]
            exact Ev.congr (fun n => by rw [if_pos hx]) hi
          · rw [no (fun h => by
              rcases h with h | h
              · exact z h
              · exact hx ((idx_self l i (by omega)).2 h.2.2.2))]
            exact Ev.now' (fun n => by rw [if_neg hx])
        · rw [no (fun h => by
            rcases h with h | h
            · exact z h
            · exact hino ⟨h.2.1, h.2.2.1⟩)]
          exact Ev.now' (fun n => by rw [if_neg hino])
      · rw [no (fun h => by
          rcases h with h | h
          · exact z h
          · exact hb h.1)]
        exact Ev.now' (fun n => by rw [if_neg hb])
theorem impl_blockok (b : Bool) (l : List S69) (t : ByteArray) (hl : l.length ≤ 1048576) (hn : ∀ x ∈ l, x.f0.size ≤ 140737488351232) : Ev (fun n => impl_BlockOk.f n b l t) (dB (BOk b l t)) := by
  unfold impl_BlockOk.f
  by_cases hb : b = true
  · simp only [if_pos hb]
    have e : dB (BOk b l t) = dB ((∀ j, 0 ≤ j → j < l.length → SOk l j) ∧ l.length = 4 ∧ t.toList = ([] : List UInt8)) := dB_congr (by
      unfold BOk
      rw [if_pos hb]
      exact ⟨fun h => ⟨fun j _ hj => h.1 j hj, h.2⟩, fun h => ⟨fun j hj => h.1 j (Nat.zero_le _) hj, h.2⟩⟩)
    rw [e]
    exact impl_block_loop b l t hl hn l.length 0 (Nat.zero_le _) (by omega)
  · simp only [if_neg hb]
    refine Ev.now' (fun _ => ?_)
    have e : dB (BOk b l t) = dB (l.length = 0 ∧ t.size ≤ 16) := dB_congr (by unfold BOk; rw [if_neg hb])
    rw [e]
    by_cases h0 : l.length = 0
    · rw [if_pos (by omega)]
      by_cases h16 : t.size ≤ 16
      · rw [dB_true ⟨h0, h16⟩, decide_eq_true (by omega)]
      · rw [dB_false (fun h => h16 h.2), decide_eq_false (by omega)]
    · rw [if_neg (by omega), dB_false (fun h => h0 h.1)]

theorem bytetexts_loop (p : List Int) (hp : p.length ≤ 1048576) (d : Nat) : ∀ (l : List Int) (i : Nat), i ≤ p.length → p.length - i = d → l = (p.take i).map (· % 256) → Ev (fun k => impl_byteTexts.l0 k l p (p.length : Int) (i : Int)) (strOfNums (p.map (· % 256))) := by
  induction d with
  | zero =>
    intro l i hi hd hl
    obtain rfl : i = p.length := by omega
    rw [List.take_length] at hl
    subst hl
    exact Ev.last (fun k => by simp only [impl_byteTexts.l0]; rw [if_neg (by omega)])
  | succ d ih =>
    intro l i hi hd hl
    have hlen : l.length = i := by rw [hl]; simp; omega
    refine Ev.step (fun k => ?_) (ih (l ++ [rd p (i : Int) % 256]) (i + 1) (by omega) (by omega) ?_)
    · simp only [impl_byteTexts.l0]
      rw [if_pos (by omega), if_pos (by omega), if_pos (by omega), if_pos (by omega), w64 (x := (i : Int) + 1) (by omega) (by omega)]
      rfl
    · have hr : rd p (i : Int) = p[i] := by
        unfold rd
        rw [Int.toNat_natCast, List.getD_eq_getElem?_getD, List.getElem?_eq_getElem (by omega)]
        rfl
      rw [List.take_succ_eq_append_getElem (by omega), List.map_append, ← hl, hr]
      rfl
theorem bytetexts_ev (p : List Int) (hp : p.length ≤ 1048576) : Ev (fun k => impl_byteTexts.f k p) (strOfNums (p.map (· % 256))) :=
  bytetexts_loop p hp p.length [] 0 (by omega) (by omega) (by simp)
theorem strOfNums_append (xs ys : List Int) : strOfNums xs ++ strOfNums ys = strOfNums (xs ++ ys) := by
  apply toList_inj
  rw [Go.Lib.toList_data, Go.Lib.toList_data, ByteArray.data_append, Array.toList_append, strOfNums_data, strOfNums_data, strOfNums_data, List.map_append]

/-- The bytes of a number as VarText writes them. -/
def venc (n : Nat) : List Int := if n > 127 then (((n % 128 + 128 : Nat)) : Int) :: venc (n / 128) else [(n : Int)]
termination_by n
decreasing_by omega
theorem venc_length (n : Nat) : (venc n).length ≤ n + 1 := by
  induction n using Nat.strongRecOn with
  | _ n ih =>
    unfold venc
    by_cases h : n > 127
    · rw [if_pos h]
      have := ih (n / 128) (by omega)
      simp only [List.length_cons]
      omega
    · rw [if_neg h]
      simp
theorem venc_range (n : Nat) : ∀ x ∈ venc n, 0 ≤ x ∧ x ≤ 255 := by
  induction n using Nat.strongRecOn with
  | _ n ih =>
    intro x hx
    unfold venc at hx
    by_cases h : n > 127
    · rw [if_pos h] at hx
      rcases List.mem_cons.1 hx with rfl | hx
      · omega
      · exact ih (n / 128) (by omega) x hx
    · rw [if_neg h] at hx
      rw [List.mem_singleton.1 hx]
      omega

theorem vartext_loop (d : Nat) : ∀ (k n : Nat) (l : List Int), n < d → d ≤ k → l.length + n ≤ 1000000000 → impl_VarText.l0 k (n : Int) l = some (strOfNums (l ++ venc n), true) := by
  induction d with
  | zero => intro k n l hd; omega
  | succ d ih =>
    intro k n l hd hk hl
    obtain ⟨k, rfl⟩ : ∃ m, k = m + 1 := ⟨k - 1, by omega⟩
    simp only [impl_VarText.l0]
    unfold venc
    by_cases hb : n > 127
    · have e1 : Int.tdiv (n : Int) 128 = ((n / 128 : Nat) : Int) := by rw [tdiv_nn (by omega)]; omega
      have e3 : (wrap64 (Int.tmod (n : Int) 128 + 128)) % 256 = ((n % 128 + 128 : Nat) : Int) := by
        rw [tmod_nn (by omega), w64 (by omega) (by omega)]
        omega
      rw [if_pos (show (n : Int) > 127 by omega), if_pos (by omega), e1, w64 (by omega) (by omega), e3, ih k (n / 128) _ (by omega) (by omega) (by simp; omega), if_pos hb]
      simp
    · rw [if_neg (show ¬ (n : Int) > 127 by omega), if_pos (by omega), if_neg hb, show (n : Int) % 256 = n by omega]
theorem vartext_ev (n : Nat) (h : n ≤ 1000000000) : Ev (fun k => impl_VarText.f k (n : Int)) (strOfNums (venc n), true) :=
  Ev.at_ (n + 1) (fun k hk => by
    unfold impl_VarText.f
    rw [within_eq, decide_eq_true (by omega)]
    simp only [Option.bind_some, if_true]
    rw [vartext_loop (n + 1) k n [] (by omega) hk (by simp; omega)]
    simp)
theorem shorttext_ev (s : ByteArray) (h : s.size ≤ 20000) : Ev (fun k => impl_ShortText.f k s) (strOfNums (venc s.size) ++ s, true) := by
  unfold impl_ShortText.f
  simp only [if_neg (show ¬ (s.size : Int) > 20000 by omega)]
  have hv := venc_length s.size
  refine Ev.bind (vartext_ev s.size (by omega)) (Ev.now' fun _ => ?_)
  simp only [strOfNums_size]
  rw [if_pos (by omega)]

theorem l01var_loop (d : Nat) : ∀ (k n : Nat) (l : List Int), n < d → d ≤ k → l.length + n ≤ 1000000000 → spec_l01Var.l0 k (n : Int) l = some (strOfNums (l ++ venc n)) := by
  induction d with
  | zero => intro k n l hd; omega
  | succ d ih =>
    intro k n l hd hk hl
    obtain ⟨k, rfl⟩ : ∃ m, k = m + 1 := ⟨k - 1, by omega⟩
    simp only [spec_l01Var.l0]
    unfold venc
    by_cases hb : n > 127
    · have e1 : Int.tdiv (n : Int) 128 = ((n / 128 : Nat) : Int) := by rw [tdiv_nn (by omega)]; omega
      have e3 : (wrap64 (Int.tmod (n : Int) 128 + 128)) % 256 = ((n % 128 + 128 : Nat) : Int) := by
        rw [tmod_nn (by omega), w64 (by omega) (by omega)]
        omega
      rw [if_pos (show (n : Int) > 127 by omega), if_pos (by omega), e1, w64 (by omega) (by omega), e3, ih k (n / 128) _ (by omega) (by omega) (by simp; omega), if_pos hb]
      simp
    · rw [if_neg (show ¬ (n : Int) > 127 by omega), if_pos (by omega), if_neg hb, show (n : Int) % 256 = n by omega]
theorem l01var_ev (n : Nat) (h : n ≤ 1000000000) : Ev (fun k => spec_l01Var.f k (n : Int)) (strOfNums (venc n)) :=
  Ev.at_ (n + 1) (fun k hk => by
    unfold spec_l01Var.f
    rw [l01var_loop (n + 1) k n [] (by omega) hk (by simp; omega)]
    simp)

theorem app_assoc (a b c : ByteArray) : a ++ b ++ c = a ++ (b ++ c) := by
  apply toList_inj
  simp only [Go.Lib.toList_data, ByteArray.data_append, Array.toList_append, List.append_assoc]
/-- A slot's bytes in a block's text. -/
def slotEnc (x : S69) : ByteArray := strOfNums [x.f1 % 256] ++ (strOfNums (venc x.f0.size) ++ x.f0)
theorem slotEnc_size (x : S69) (h : x.f0.size ≤ 6) : (slotEnc x).size ≤ 14 := by
  unfold slotEnc
  have := venc_length x.f0.size
  rw [ByteArray.size_append, ByteArray.size_append, strOfNums_size, strOfNums_size]
  simp only [List.length_singleton]
  omega
/-- What both BlockTexts answer. -/
noncomputable def BT (b : Bool) (l : List S69) (t : ByteArray) : ByteArray × Bool := if dB (BOk b l t) = true then (if b = true then (l.foldl (fun a x => a ++ slotEnc x) ⟨#[100]⟩, true) else ((⟨#[116]⟩ : ByteArray) ++ t, true)) else (⟨#[]⟩, false)
theorem size_of_toList {s : ByteArray} (h : s.toList = ([] : List UInt8)) : s.size = 0 := by
  rw [Go.Lib.toList_data] at h
  have h2 : s.data.toList.length = 0 := by rw [h]; rfl
  rw [Array.length_toList] at h2
  exact h2
theorem BOk_small {b : Bool} {l : List S69} {t : ByteArray} (hn : ∀ x ∈ l, x.f0.size ≤ 140737488351232) (hb : b = true) (h : BOk b l t) : l.length = 4 ∧ ∀ x ∈ l, x.f0.size ≤ 6 := by
  unfold BOk at h
  rw [if_pos hb] at h
  refine ⟨h.2.1, fun x hx => ?_⟩
  obtain ⟨j, hj, e⟩ := List.mem_iff_getElem.1 hx
  have e2 : l.getD j z69 = x := by rw [List.getD_eq_getElem?_getD, List.getElem?_eq_getElem hj, ← e]; rfl
  have := h.1 j hj
  unfold SOk at this
  rw [e2] at this
  rcases this with h1 | h1
  · have := size_of_toList h1.1
    omega
  · exact (name_size _ (hn x hx) h1.1).2
theorem drop_getD (l : List S69) (i : Nat) (h : i < l.length) : l.drop i = l.getD i z69 :: l.drop (i + 1) := by
  rw [List.drop_eq_getElem_cons h, List.getD_eq_getElem?_getD, List.getElem?_eq_getElem h]
  rfl
theorem spec_blocktext_loop (b : Bool) (l : List S69) (t : ByteArray) (hl : l.length = 4) (hs : ∀ x ∈ l, x.f0.size ≤ 6) (d : Nat) : ∀ (i : Nat) (a : ByteArray), i ≤ 4 → 4 - i = d → a.size + 20 * d ≤ 1000 → Ev (fun k => spec_BlockText.l0 k a i b l t) ((l.drop i).foldl (fun a x => a ++ slotEnc x) a, true) := by
  induction d with
  | zero =>
    intro i a h4 hd ha
    rw [List.drop_of_length_le (by omega)]
    exact Ev.last (fun k => by simp only [spec_BlockText.l0]; rw [if_neg (by omega)]; rfl)
  | succ d ih =>
    intro i a h4 hd ha
    have hw : wrap64 ((i : Int) + 1) = ((i + 1 : Nat) : Int) := by rw [w64 (by omega) (by omega)]; omega
    have hx := hs _ (getD_mem (xs := l) (i := i) z69 (by omega))
    have hsz := slotEnc_size _ hx
    have hv := venc_length (l.getD i z69).f0.size
    have hst := ih (i + 1) (a ++ slotEnc (l.getD i z69)) (by omega) (by omega) (by rw [ByteArray.size_append]; omega)
    rw [drop_getD l i (by omega), List.foldl_cons]
    have key : ∀ k, spec_BlockText.l0 (k + 1) a i b l t = (spec_l01Var.f k ((l.getD i z69).f0.size : Int)).bind (fun v => if (a ++ strOfNums [(l.getD i z69).f1 % 256]).size + v.size ≤ 9223372036854775807 then (if ((a ++ strOfNums [(l.getD i z69).f1 % 256]) ++ v).size + (l.getD i z69).f0.size ≤ 9223372036854775807 then spec_BlockText.l0 k (((a ++ strOfNums [(l.getD i z69).f1 % 256]) ++ v) ++ (l.getD i z69).f0) ((i + 1 : Nat) : Int) b l t else none) else none) := fun k => by
      simp only [spec_BlockText.l0, Option.bind_some]
      rw [if_pos (by omega), if_pos (by omega), if_pos (by omega), if_pos (by rw [strOfNums_size]; simp only [List.length_singleton]; omega), hw]
      rfl
    refine Ev.step key (Ev.bind (l01var_ev _ (by omega)) (Ev.congr (fun k => ?_) hst))
    rw [if_pos (by rw [ByteArray.size_append, strOfNums_size, strOfNums_size]; simp only [List.length_singleton]; omega), if_pos (by rw [ByteArray.size_append, ByteArray.size_append, strOfNums_size, strOfNums_size]; simp only [List.length_singleton]; omega)]
    have e : a ++ strOfNums [(l.getD i z69).f1 % 256] ++ strOfNums (venc (l.getD i z69).f0.size) ++ (l.getD i z69).f0 = a ++ slotEnc (l.getD i z69) := by
      unfold slotEnc
      rw [app_assoc, app_assoc]
    rw [e]
theorem spec_blocktext (b : Bool) (l : List S69) (t : ByteArray) (hn : ∀ x ∈ l, x.f0.size ≤ 140737488351232) : Ev (fun k => spec_BlockText.f k b l t) (BT b l t) := by
  unfold spec_BlockText.f BT
  refine Ev.bind (spec_blockok b l t hn) ?_
  by_cases h : dB (BOk b l t) = true
  · simp only [if_pos h]
    by_cases hb : b = true
    · simp only [if_pos hb]
      obtain ⟨h4, hs⟩ := BOk_small hn hb (of_dB h)
      have := spec_blocktext_loop b l t h4 hs 4 0 ⟨#[100]⟩ (by omega) (by omega) (by decide)
      rw [List.drop_zero] at this
      exact this
    · simp only [if_neg hb]
      have h16 := of_dB h
      unfold BOk at h16
      rw [if_neg hb] at h16
      exact Ev.now' fun _ => by rw [if_pos (by omega)]
  · simp only [if_neg h]
    exact Ev.now _
theorem impl_blocktext_loop (l : List S69) (hl : l.length = 4) (hs : ∀ x ∈ l, x.f0.size ≤ 6) (d : Nat) : ∀ (i : Nat) (a : ByteArray), i ≤ 4 → 4 - i = d → a.size + 20 * d ≤ 1000 → Ev (fun k => impl_BlockText.l0 k a l (l.length : Int) i) ((l.drop i).foldl (fun a x => a ++ slotEnc x) a, true) := by
  induction d with
  | zero =>
    intro i a h4 hd ha
    rw [List.drop_of_length_le (by omega)]
    exact Ev.last (fun k => by simp only [impl_BlockText.l0]; rw [if_neg (by omega)]; rfl)
  | succ d ih =>
    intro i a h4 hd ha
    have hw : wrap64 ((i : Int) + 1) = ((i + 1 : Nat) : Int) := by rw [w64 (by omega) (by omega)]; omega
    have hx := hs _ (getD_mem (xs := l) (i := i) z69 (by omega))
    have hsz := slotEnc_size _ hx
    have hv := venc_length (l.getD i z69).f0.size
    have hst := ih (i + 1) (a ++ slotEnc (l.getD i z69)) (by omega) (by omega) (by rw [ByteArray.size_append]; omega)
    rw [drop_getD l i (by omega), List.foldl_cons]
    have key : ∀ k, impl_BlockText.l0 (k + 1) a l (l.length : Int) i = (impl_ShortText.f k (l.getD i z69).f0).bind (fun q => (impl_byteTexts.f k [(l.getD i z69).f1]).bind (fun v => if v.size + q.1.size ≤ 9223372036854775807 then (if a.size + (v ++ q.1).size ≤ 9223372036854775807 then impl_BlockText.l0 k (a ++ (v ++ q.1)) l (l.length : Int) ((i + 1 : Nat) : Int) else none) else none)) := fun k => by
      simp only [impl_BlockText.l0]
      rw [if_pos (by omega), if_pos (by omega), if_pos (by omega), hw]
      rfl
    refine Ev.step key (Ev.bind (shorttext_ev _ (by omega)) (Ev.bind (bytetexts_ev [(l.getD i z69).f1] (by simp)) (Ev.congr (fun k => ?_) hst)))
    have e : strOfNums ([(l.getD i z69).f1].map (· % 256)) ++ (strOfNums (venc (l.getD i z69).f0.size) ++ (l.getD i z69).f0) = slotEnc (l.getD i z69) := rfl
    simp only [e]
    rw [if_pos (by rw [ByteArray.size_append, strOfNums_size, strOfNums_size]; simp only [List.length_map, List.length_singleton]; omega), if_pos (by omega)]
theorem impl_blocktext (b : Bool) (l : List S69) (t : ByteArray) (hl : l.length ≤ 1048576) (hn : ∀ x ∈ l, x.f0.size ≤ 140737488351232) : Ev (fun k => impl_BlockText.f k b l t) (BT b l t) := by
  unfold impl_BlockText.f BT
  refine Ev.bind (impl_blockok b l t hl hn) ?_
  by_cases h : dB (BOk b l t) = true
  · simp only [if_pos h]
    by_cases hb : b = true
    · simp only [if_pos hb]
      obtain ⟨h4, hs⟩ := BOk_small hn hb (of_dB h)
      have := impl_blocktext_loop l h4 hs 4 0 ⟨#[100]⟩ (by omega) (by omega) (by decide)
      rw [List.drop_zero] at this
      exact this
    · simp only [if_neg hb]
      have h16 := of_dB h
      unfold BOk at h16
      rw [if_neg hb] at h16
      exact Ev.now' fun _ => by rw [if_pos (by omega)]
  · simp only [if_neg h]
    exact Ev.now _

theorem FnExactBlockText : laws_FnExactBlockText.Pure := by
  intro b l t hg
  unfold laws_FnExactBlockText.f
  obtain ⟨r, hr, _, _, hlim⟩ := szBlock_ev b l t 1048576 hg (by omega) (by omega)
  refine Ev.rounds (Ev.bind hr ?_)
  by_cases hneg : r < 0
  · exact Ev.now' fun _ => by rw [if_pos hneg]
  · simp only [if_neg hneg]
    obtain ⟨hl, hs, _⟩ := hlim (by omega)
    have hl' : (l.map cvS).length ≤ 1048576 := by simpa using hl
    have hn : ∀ x ∈ l.map cvS, x.f0.size ≤ 140737488351232 := fun x hx => by
      obtain ⟨y, hy, rfl⟩ := List.mem_map.1 hx
      have := hs y hy
      unfold SLim at this
      show y.f0.size ≤ _
      omega
    refine Ev.bind (toBlock_ev b l t hl) (Ev.bind (spec_blocktext b (l.map cvS) t hn) (Ev.bind (toBlock_ev b l t hl) (Ev.bind (impl_blocktext b (l.map cvS) t hl' hn) ?_)))
    simp only [bne_self_eq_false, if_true]
    refine Ev.step (f := fun k => (laws_toBlock.f k b l t).bind fun q => (laws_eqBlock.f k b (l.map cvS) t q.1 q.2.1 q.2.2).bind fun t => if t = true then some true else some false) (fun k => by simp only [laws_FnExactBlockText.j0]; rfl) ?_
    exact Ev.bind (toBlock_ev b l t hl) (Ev.bind (eqBlock_ev b (l.map cvS) t hl') (Ev.now _))
end Go.Proofs.Ytdnbpapolckklaa.Pure
