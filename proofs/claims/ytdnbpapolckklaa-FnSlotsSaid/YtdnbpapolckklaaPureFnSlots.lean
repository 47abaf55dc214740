/- FnSlots: for every draw, SlotOf finds each named slot of a drawn block at its own place, finds no slot that is not there, NameOk is right for each drawn name, a new directory is right, and SlotOf and NameOk answer what the reference's do; no condition. -/
import Derived.Test.YtdnbpapolckklaaPFnSlotsx6
import Derived.Test.YtdnbpapolckklaaAid
namespace Go.Proofs.Ytdnbpapolckklaa.Pure
open Go.RowKit Go.Proofs.Ytdnbpapolckklaa.PFnSlots Go.Proofs.YtdnbpapolckklaaW.PrintWords Go.Proofs.YtdnbpapolckklaaW.PrintLast Go.Proofs.YtdnbpapolckklaaW.PrintMore Go.Proofs.Ytdnbpapolckklaa.Aid
set_option linter.unusedVariables false
set_option linter.unusedSimpArgs false

theorem big_eq (l : List Int) : laws_big.f l = some (decide ((l.length : Int) > 1048576)) := rfl

theorem byte_some (s : List Int) (hs : s.length ≤ 140737488351232) (i h : Int) (h0 : 0 ≤ i) (h1 : i ≤ s.length) : ∃ b i' h', spec_l01Byte.f s i h = some (b, i', h') ∧ 0 ≤ b ∧ b ≤ 255 ∧ 0 ≤ i' ∧ i' ≤ s.length := by
  unfold spec_l01Byte.f
  by_cases hi : i < (s.length : Int)
  · rw [if_pos hi, if_pos h0, w64 (x := i + 1) (by omega) (by omega), and255]
    exact ⟨_, _, _, rfl, by omega, by omega, by omega, by omega⟩
  · rw [if_neg hi, and255]
    exact ⟨_, _, _, rfl, by omega, by omega, by omega, by omega⟩

theorem text_loop (s : List Int) (hs : s.length ≤ 140737488351232) (n : Int) (hn : n ≤ 5000) (d : Nat) : ∀ (l : List Int) (j i h : Int), 0 ≤ j → j ≤ n → n - j = d → l.length = j → 0 ≤ i → i ≤ s.length → ∃ t i' h', Ev (fun k => spec_l01Text.l0 k n l j s i h) (t, i', h') ∧ (t.size : Int) = n ∧ 0 ≤ i' ∧ i' ≤ s.length := by
  induction d with
  | zero =>
    intro l j i h j0 j1 hd hl h0 h1
    exact ⟨strOfNums l, i, h, Ev.last (fun k => by simp only [spec_l01Text.l0]; rw [if_neg (by omega)]), by rw [strOfNums_size]; omega, h0, h1⟩
  | succ d ih =>
    intro l j i h j0 j1 hd hl h0 h1
    obtain ⟨b, i1, g1, e, _, _, i0, i2⟩ := byte_some s hs i h h0 h1
    obtain ⟨t, i', h', ht, r⟩ := ih (l ++ [b % 256]) (j + 1) i1 g1 (by omega) (by omega) (by omega) (by simp; omega) i0 i2
    refine ⟨t, i', h', Ev.step (fun k => ?_) ht, r⟩
    simp only [spec_l01Text.l0]
    rw [if_pos (by omega), e]
    simp only [Option.bind_some]
    rw [if_pos (by omega), w64 (x := j + 1) (by omega) (by omega)]
theorem text_ev (s : List Int) (hs : s.length ≤ 140737488351232) (i h n : Int) (n0 : 0 ≤ n) (n1 : n ≤ 5000) (h0 : 0 ≤ i) (h1 : i ≤ s.length) : ∃ t i' h', Ev (fun k => spec_l01Text.f k s i h n) (t, i', h') ∧ (t.size : Int) = n ∧ 0 ≤ i' ∧ i' ≤ s.length := by
  obtain ⟨t, i', h', ht, r⟩ := text_loop s hs n n1 n.toNat [] 0 i h (by omega) n0 (by omega) rfl h0 h1
  refine ⟨t, i', h', ?_, r⟩
  refine Ev.congr (fun k => ?_) (Ev.step (g := fun k => spec_l01Text.j0 k n s i h) (fun k => by simp only [spec_l01Text.j0]) ht)
  unfold spec_l01Text.f
  rw [if_neg (by omega)]

theorem below_some (s : List Int) (hs : s.length ≤ 140737488351232) (i h n : Int) (h0 : 0 ≤ i) (h1 : i ≤ s.length) : ∃ r i' h', spec_l01Below.f s i h n = some (r, i', h') ∧ 0 ≤ i' ∧ i' ≤ s.length ∧ 0 ≤ r ∧ (n ≤ 0 → r = 0) ∧ (0 < n → r < n) := by
  unfold spec_l01Below.f
  by_cases hn : n ≤ 0
  · rw [if_pos hn]
    exact ⟨_, _, _, rfl, h0, h1, by omega, fun _ => rfl, fun h => by omega⟩
  · rw [if_neg hn]
    by_cases hm : n ≤ 256
    · rw [if_pos hm]
      obtain ⟨b, i1, h1', e, b0, b1, c0, c1⟩ := byte_some s hs i h h0 h1
      rw [e]
      simp only [Option.bind_some]
      rw [if_neg (by omega), tmod_nn b0]
      have p0 := Int.emod_nonneg b (show n ≠ 0 by omega)
      have p1 := Int.emod_lt_of_pos b (show 0 < n by omega)
      exact ⟨_, _, _, rfl, c0, c1, p0, fun h => by omega, fun _ => p1⟩
    · rw [if_neg hm]
      obtain ⟨a, i1, g1, e1, a0, a1, c0, c1⟩ := byte_some s hs i h h0 h1
      rw [e1]
      simp only [Option.bind_some]
      obtain ⟨b, i2, g2, e2, b0, b1, d0, d1⟩ := byte_some s hs i1 g1 c0 c1
      rw [e2]
      simp only [Option.bind_some]
      obtain ⟨c, i3, g3, e3, k0, k1, f0, f1⟩ := byte_some s hs i2 g2 d0 d1
      rw [e3]
      simp only [Option.bind_some]
      obtain ⟨d, i4, g4, e4, l0, l1, m0, m1⟩ := byte_some s hs i3 g3 f0 f1
      rw [e4]
      simp only [Option.bind_some]
      rw [if_neg (by omega), w64 (x := a * 16777216) (by omega) (by omega), w64 (x := b * 65536) (by omega) (by omega), w64 (x := c * 256) (by omega) (by omega), w64 (x := a * 16777216 + b * 65536) (by omega) (by omega),
        w64 (x := a * 16777216 + b * 65536 + c * 256) (by omega) (by omega), w64 (x := a * 16777216 + b * 65536 + c * 256 + d) (by omega) (by omega), tmod_nn (by omega)]
      have p0 := Int.emod_nonneg (a * 16777216 + b * 65536 + c * 256 + d) (show n ≠ 0 by omega)
      have p1 := Int.emod_lt_of_pos (a * 16777216 + b * 65536 + c * 256 + d) (show 0 < n by omega)
      exact ⟨_, _, _, rfl, m0, m1, p0, fun h => by omega, fun _ => p1⟩

theorem pick_some (s : List Int) (hs : s.length ≤ 140737488351232) (i h : Int) (l : List ByteArray) (hl : 0 < l.length) (h0 : 0 ≤ i) (h1 : i ≤ s.length) : ∃ r i' h', spec_l01Pick.f s i h l = some (r, i', h') ∧ r ∈ l ∧ 0 ≤ i' ∧ i' ≤ s.length := by
  obtain ⟨r, i', h', e, i0, i1, r0, _, r1⟩ := below_some s hs i h (l.length : Int) h0 h1
  have hr := r1 (by omega)
  refine ⟨rdOf ByteArray.empty l r, i', h', ?_, getD_mem (xs := l) (i := r.toNat) ByteArray.empty (by omega), i0, i1⟩
  unfold spec_l01Pick.f
  rw [e]
  simp only [Option.bind_some]
  rw [if_pos r0, if_pos hr]

theorem once_some (s : List Int) (hs : s.length ≤ 140737488351232) (i h n : Int) (h0 : 0 ≤ i) (h1 : i ≤ s.length) : ∃ b i' h', spec_l01Once.f s i h n = some (b, i', h') ∧ 0 ≤ i' ∧ i' ≤ s.length := by
  unfold spec_l01Once.f
  obtain ⟨r, i1, g1, e, c0, c1, _⟩ := below_some s hs i h n h0 h1
  rw [e]
  exact ⟨_, _, _, rfl, c0, c1⟩

theorem new_ends (s : List Int) (hs : s.length ≤ 140737488351232) (d : Nat) : ∀ (h i : Int), 0 ≤ i → i ≤ s.length → (s.length : Int) - i = d → ∃ h', Ev (fun k => spec_l01New.l0 k s h i) (s, 0, h') := by
  induction d with
  | zero =>
    intro h i h0 h1 hd
    exact ⟨h, Ev.last (fun k => by simp only [spec_l01New.l0]; rw [if_neg (by omega)])⟩
  | succ d ih =>
    intro h i h0 h1 hd
    by_cases hf : i < 4000
    · obtain ⟨h', hr⟩ := ih (Go.bits .and .i64 (wrap64 ((wrap64 ((wrap64 (h * 131)) + (wrap64 (rd s i)))) + 7)) 1073741823) (i + 1) (by omega) (by omega) (by omega)
      exact ⟨h', Ev.step (fun k => by simp only [spec_l01New.l0]; rw [if_pos (by omega), if_pos hf, if_pos h0, w64 (x := i + 1) (by omega) (by omega)]) hr⟩
    · exact ⟨h, Ev.last (fun k => by simp only [spec_l01New.l0]; rw [if_pos (by omega), if_neg hf])⟩
theorem new_ev (s : List Int) (hs : s.length ≤ 140737488351232) : ∃ h, Ev (fun k => spec_l01New.f k s) (s, 0, h) := by
  obtain ⟨h, hr⟩ := new_ends s hs s.length (wrap64 (37701 + (s.length : Int))) 0 (by omega) (by omega) (by omega)
  exact ⟨h, hr⟩

/-- The place of the first slot with this name; -1 for the empty name and without one. -/
def slotF (nm : ByteArray) (l : List S69) : Int := if nm.toList = ([] : List UInt8) then -1 else impl_SlotOf.idx nm l 0
theorem impl_slotof (b : Bool) (l : List S69) (t nm : ByteArray) : Ev (fun _ => impl_SlotOf.f b l t nm) (slotF nm l) := Ev.now' fun _ => by
  unfold impl_SlotOf.f slotF
  split <;> rfl
theorem spec_slotof_loop (b : Bool) (l : List S69) (t nm : ByteArray) (hl : l.length ≤ 1048576) (d : Nat) : ∀ (i : Int), 0 ≤ i → i ≤ l.length → (l.length : Int) - i = d → (¬ nm.toList = ([] : List UInt8) → ∀ j : Nat, (j : Int) < i → ¬ (l.getD j z69).f0.toList = nm.toList) → Ev (fun k => spec_SlotOf.l0 k nm i b l t) (slotF nm l) := by
  induction d with
  | zero =>
    intro i h0 h1 hd hno
    refine Ev.last (fun k => ?_)
    simp only [spec_SlotOf.l0]
    rw [if_neg (by omega)]
    unfold slotF
    by_cases e : nm.toList = ([] : List UInt8)
    · rw [if_pos e]
    · rw [if_neg e, impl_SlotOf.idx_miss nm l 0 (fun j hj => hno e j (by omega))]
  | succ d ih =>
    intro i h0 h1 hd hno
    have hw : wrap64 (i + 1) = i + 1 := w64 (by omega) (by omega)
    have e0 : rd_T69 l i = l.getD i.toNat z69 := rfl
    by_cases e : nm.toList = ([] : List UInt8)
    · refine Ev.step (fun k => ?_) (ih (i + 1) (by omega) (by omega) (by omega) (fun h => absurd e h))
      simp only [spec_SlotOf.l0]
      rw [if_pos (by omega), if_pos e, hw]
    · by_cases hit : (l.getD i.toNat z69).f0.toList = nm.toList
      · refine Ev.last (fun k => ?_)
        simp only [spec_SlotOf.l0, e0]
        rw [if_pos (by omega), if_neg e, if_pos h0, if_pos hit]
        unfold slotF
        rw [if_neg e, impl_SlotOf.idx_hit nm l i.toNat 0 (by omega) hit (fun j hj => hno e j (by omega))]
        congr 1
        omega
      · refine Ev.step (fun k => ?_) (ih (i + 1) (by omega) (by omega) (by omega) (fun h j hj => by
          by_cases ej : j = i.toNat
          · rw [ej]; exact hit
          · exact hno h j (by omega)))
        simp only [spec_SlotOf.l0, e0]
        rw [if_pos (by omega), if_neg e, if_pos h0, if_neg hit, hw]
theorem spec_slotof (b : Bool) (l : List S69) (t nm : ByteArray) (hl : l.length ≤ 1048576) : Ev (fun k => spec_SlotOf.f k b l t nm) (slotF nm l) :=
  spec_slotof_loop b l t nm hl l.length 0 (by omega) (by omega) (by omega) (fun _ j hj => by omega)

theorem in_eq (a b c : Int) : spec_l01In.f a b c = some (decide (b ≤ a ∧ a ≤ c)) := by
  unfold spec_l01In.f
  by_cases h : a ≥ b
  · rw [if_pos h]
    simp [show b ≤ a from h]
  · rw [if_neg h]
    simp [show ¬ b ≤ a from h]

theorem within_eq (a b c : Int) : impl_within.f a b c = some (decide (b ≤ a ∧ a ≤ c)) := by
  unfold impl_within.f
  by_cases h : a ≥ b
  · rw [if_pos h]
    simp [show b ≤ a from h]
  · rw [if_neg h]
    simp [show ¬ b ≤ a from h]

theorem name_ev (s : ByteArray) (hs : s.size ≤ 140737488351232) : ∃ r, Ev (fun k => spec_NameOk.f k s) r ∧ Ev (fun k => impl_NameOk.f k s) r ∧ (r = true → 1 ≤ s.size ∧ s.size ≤ 6) := by
  have loop : ∀ (d : Nat) (i : Int), 0 ≤ i → i ≤ s.size → (s.size : Int) - i = d → ∃ r, Ev (fun k => spec_NameOk.l0 k s i) r ∧ Ev (fun k => impl_NameOk.l0 k s (s.size : Int) i) r ∧ (r = true → 1 ≤ s.size ∧ s.size ≤ 6) := by
    intro d
    induction d with
    | zero =>
      intro i h0 h1 hd
      refine ⟨decide (1 ≤ (s.size : Int) ∧ (s.size : Int) ≤ 6), Ev.last fun k => ?_, Ev.last fun k => ?_, fun h => ?_⟩
      · simp only [spec_NameOk.l0]
        rw [if_neg (by omega), in_eq]
        rfl
      · simp only [impl_NameOk.l0]
        rw [if_neg (by omega), within_eq]
        rfl
      · have := of_decide_eq_true h
        omega
    | succ d ih =>
      intro i h0 h1 hd
      have hi : i < (s.size : Int) := by omega
      have hw : wrap64 (i + 1) = i + 1 := w64 (by omega) (by omega)
      have hb := bt_range s i
      have hwb : wrap64 (bt s i) = bt s i := w64 (by omega) (by omega)
      obtain ⟨r, hr1, hr2, hr3⟩ := ih (i + 1) (by omega) (by omega) (by omega)
      have es : ∀ k, spec_NameOk.l0 (k + 1) s i = if (97 ≤ bt s i ∧ bt s i ≤ 122) ∨ (48 ≤ bt s i ∧ bt s i ≤ 57) then spec_NameOk.l0 k s (i + 1) else some false := fun k => by
        simp only [spec_NameOk.l0]
        rw [if_pos hi, if_pos h0, hw]
        split <;> split <;> (try split) <;> (try split) <;> (try split) <;> first | rfl | omega
      have ei : ∀ k, impl_NameOk.l0 (k + 1) s (s.size : Int) i = if (97 ≤ bt s i ∧ bt s i ≤ 122) ∨ (48 ≤ bt s i ∧ bt s i ≤ 57) then impl_NameOk.l0 k s (s.size : Int) (i + 1) else some false := fun k => by
        simp only [impl_NameOk.l0]
        rw [if_pos hi, if_pos h0, if_pos hi, hw, hwb, within_eq, within_eq]
        simp only [Option.bind_some, decide_eq_true_eq]
        split <;> (try split) <;> (try split) <;> first | rfl | omega
      by_cases c : (97 ≤ bt s i ∧ bt s i ≤ 122) ∨ (48 ≤ bt s i ∧ bt s i ≤ 57)
      · exact ⟨r, Ev.step (fun k => by rw [es, if_pos c]) hr1, Ev.step (fun k => by rw [ei, if_pos c]) hr2, hr3⟩
      · exact ⟨false, Ev.last (fun k => by rw [es, if_neg c]), Ev.last (fun k => by rw [ei, if_neg c]), fun h => by simp at h⟩
  exact loop s.size 0 (by omega) (by omega) (by omega)
/-- Whether a text is a right name. -/
noncomputable def nameB (s : ByteArray) : Bool := if h : s.size ≤ 140737488351232 then (name_ev s h).choose else false
theorem nameB_eq (s : ByteArray) (h : s.size ≤ 140737488351232) : nameB s = (name_ev s h).choose := by
  unfold nameB
  rw [dif_pos h]
theorem name_spec (s : ByteArray) (h : s.size ≤ 140737488351232) : Ev (fun k => spec_NameOk.f k s) (nameB s) := by
  rw [nameB_eq s h]
  exact (name_ev s h).choose_spec.1
theorem name_impl (s : ByteArray) (h : s.size ≤ 140737488351232) : Ev (fun k => impl_NameOk.f k s) (nameB s) := by
  rw [nameB_eq s h]
  exact (name_ev s h).choose_spec.2.1
theorem name_size (s : ByteArray) (h : s.size ≤ 140737488351232) (hb : nameB s = true) : 1 ≤ s.size ∧ s.size ≤ 6 := by
  rw [nameB_eq s h] at hb
  exact (name_ev s h).choose_spec.2.2 hb

open Classical in
/-- A proposition as a Bool. -/
noncomputable def dB (p : Prop) : Bool := decide p
theorem dB_true {p : Prop} (h : p) : dB p = true := @decide_eq_true p (Classical.propDecidable p) h
theorem dB_false {p : Prop} (h : ¬ p) : dB p = false := @decide_eq_false p (Classical.propDecidable p) h
theorem dB_congr {p q : Prop} (h : p ↔ q) : dB p = dB q := by rw [propext h]
theorem of_dB {p : Prop} (h : dB p = true) : p := Classical.byContradiction fun hp => by rw [dB_false hp] at h; exact absurd h (by decide)
/-- The slot at j is empty, or right and the first of its name. -/
def SOk (l : List S69) (j : Nat) : Prop := ((l.getD j z69).f0.toList = ([] : List UInt8) ∧ (l.getD j z69).f1 = 0) ∨ (nameB (l.getD j z69).f0 = true ∧ 1 ≤ (l.getD j z69).f1 ∧ (l.getD j z69).f1 ≤ 8 ∧ ∀ k, k < j → ¬ (l.getD k z69).f0.toList = (l.getD j z69).f0.toList)
/-- A right block. -/
def BOk (b : Bool) (l : List S69) (t : ByteArray) : Prop := if b = true then (∀ j, j < l.length → SOk l j) ∧ l.length = 4 ∧ t.toList = ([] : List UInt8) else l.length = 0 ∧ t.size ≤ 16
theorem idx_le (nm : ByteArray) (l : List S69) (k : Nat) (i : Int) (hk : k < l.length) (h : (l.getD k z69).f0.toList = nm.toList) : impl_SlotOf.idx nm l i ≤ i + k := by
  induction l generalizing k i with
  | nil => simp at hk
  | cons x r ih =>
    simp only [impl_SlotOf.idx]
    split
    · omega
    · rename_i hx
      cases k with
      | zero => exact absurd (by simpa using h) hx
      | succ k =>
        have := ih k (i + 1) (by simpa using hk) (by simpa using h)
        omega
theorem idx_self (l : List S69) (j : Nat) (hj : j < l.length) : impl_SlotOf.idx (l.getD j z69).f0 l 0 = (j : Int) ↔ ∀ k, k < j → ¬ (l.getD k z69).f0.toList = (l.getD j z69).f0.toList := by
  constructor
  · intro h k hk e
    have := idx_le (l.getD j z69).f0 l k 0 (by omega) e
    omega
  · intro h
    rw [impl_SlotOf.idx_hit (l.getD j z69).f0 l j 0 hj rfl h]
    omega
theorem toList_ne {s : ByteArray} (h : 1 ≤ s.size) : ¬ s.toList = ([] : List UInt8) := fun e => by
  rw [Go.Lib.toList_data] at e
  have h2 : s.data.toList.length = 0 := by rw [e]; rfl
  rw [Array.length_toList] at h2
  have h3 : s.size = s.data.size := rfl
  omega

def n5 : List ByteArray := [(⟨#[97]⟩ : ByteArray), (⟨#[98]⟩ : ByteArray), (⟨#[99]⟩ : ByteArray), (⟨#[100, 100]⟩ : ByteArray), (⟨#[101, 49]⟩ : ByteArray)]
theorem n5_ok : ∀ x ∈ n5, nameB x = true ∧ ¬ x.toList = ([] : List UInt8) := by
  have key : ∀ x : ByteArray, x.size ≤ 140737488351232 → (∃ k, spec_NameOk.f k x = some true) → nameB x = true := fun x hx ⟨k, h⟩ => by
    obtain ⟨K, hK⟩ := name_spec x hx
    have h1 := hK (max k K) (Nat.le_max_right _ _)
    have h2 := (Ev.of (fun k => spec_NameOk.mono x k) h)
    obtain ⟨K2, hK2⟩ := h2
    have h3 := hK2 (max K K2) (Nat.le_max_right _ _)
    have h4 := hK (max K K2) (Nat.le_max_left _ _)
    rw [h4] at h3
    exact Option.some.inj h3
  intro x hx
  simp only [n5, List.mem_cons, List.not_mem_nil, or_false] at hx
  rcases hx with rfl | rfl | rfl | rfl | rfl <;> exact ⟨key _ (by decide) ⟨4, by decide +kernel⟩, by decide +kernel⟩
theorem l04name_some (s : List Int) (hs : s.length ≤ 140737488351232) (i h : Int) (h0 : 0 ≤ i) (h1 : i ≤ s.length) : ∃ r i' h', spec_l04Name.f s i h = some (r, i', h') ∧ r ∈ n5 ∧ 0 ≤ i' ∧ i' ≤ s.length := by
  obtain ⟨r, i', h', e, hr, i0, i1⟩ := pick_some s hs i h n5 (by decide) h0 h1
  refine ⟨r, i', h', ?_, hr, i0, i1⟩
  unfold spec_l04Name.f
  show (spec_l01Pick.f s i h n5).bind _ = _
  rw [e]
  rfl
/-- What a drawn directory's slots are: each named one has a right name, which no earlier one has, and an inode from 1 to 8. -/
def DSlot (l : List S69) (j : Nat) : Prop := ((l.getD j z69).f0 = (⟨#[]⟩ : ByteArray) ∧ (l.getD j z69).f1 = 0) ∨ ((l.getD j z69).f0 ∈ n5 ∧ 1 ≤ (l.getD j z69).f1 ∧ (l.getD j z69).f1 ≤ 8 ∧ ∀ k, k < j → ¬ (l.getD k z69).f0.toList = (l.getD j z69).f0.toList)
theorem empty_toList : (⟨#[]⟩ : ByteArray).toList = ([] : List UInt8) := by decide +kernel
set_option maxHeartbeats 1000000 in
theorem l04block_loop (s : List Int) (hs : s.length ≤ 140737488351232) (b : Bool) (t : ByteArray) (d : Nat) : ∀ (l : List S69) (j : Nat) (i h : Int), j ≤ 4 → 4 - j = d → l.length = 4 → (∀ k, k < j → DSlot l k) → (∀ k, j ≤ k → l.getD k z69 = z69) → 0 ≤ i → i ≤ s.length → ∃ l' i' h', Ev (fun k => spec_l04Block.l0 k (j : Int) s i h b l t) (b, l', t, i', h') ∧ l'.length = 4 ∧ (∀ k, k < 4 → DSlot l' k) ∧ 0 ≤ i' ∧ i' ≤ s.length := by
  induction d with
  | zero =>
    intro l j i h j4 hd hl hD hz h0 h1
    exact ⟨l, i, h, Ev.last (fun k => by simp only [spec_l04Block.l0]; rw [if_neg (by omega)]), hl, fun k hk => hD k (by omega), h0, h1⟩
  | succ d ih =>
    intro l j i h j4 hd hl hD hz h0 h1
    have hjl : j < l.length := by omega
    have hw : wrap64 ((j : Int) + 1) = ((j + 1 : Nat) : Int) := by rw [w64 (by omega) (by omega)]; omega
    obtain ⟨nm, i1, g1, e1, hn, a0, a1⟩ := l04name_some s hs i h h0 h1
    obtain ⟨x, i2, g2, e2, b0, b1, x0, _, x1⟩ := below_some s hs i1 g1 8 a0 a1
    have hx8 := x1 (by omega)
    obtain ⟨c, i3, g3, e3, c0, c1⟩ := once_some s hs i2 g2 2 b0 b1
    have hw2 : wrap64 (1 + x) = 1 + x := w64 (by omega) (by omega)
    have hzj : DSlot l j := Or.inl (by rw [hz j (Nat.le_refl _)]; exact ⟨rfl, rfl⟩)
    have hne := (n5_ok nm hn).2
    have hslot := spec_slotof b l t nm (by omega)
    have key : ∀ k, spec_l04Block.l0 (k + 1) (j : Int) s i h b l t = (spec_SlotOf.f k b l t nm).bind (fun q => if q < 0 then (if c = true then spec_l04Block.l0 k ((j + 1 : Nat) : Int) s i3 g3 b (l.set j ⟨nm, 1 + x⟩) t else spec_l04Block.l0 k ((j + 1 : Nat) : Int) s i3 g3 b l t) else spec_l04Block.l0 k ((j + 1 : Nat) : Int) s i2 g2 b l t) := fun k => by
      simp only [spec_l04Block.l0]
      rw [if_pos (by omega), e1]
      simp only [Option.bind_some, e2, e3, hw, hw2]
      rw [if_pos (show (0 : Int) ≤ (j : Int) by omega), if_pos (show (j : Int) < (l.length : Int) by omega)]
      rfl
    have hskip : ∀ i' h' : Int, 0 ≤ i' → i' ≤ s.length → ∃ l' i'' h'', Ev (fun k => spec_l04Block.l0 k ((j + 1 : Nat) : Int) s i' h' b l t) (b, l', t, i'', h'') ∧ l'.length = 4 ∧ (∀ k, k < 4 → DSlot l' k) ∧ 0 ≤ i'' ∧ i'' ≤ s.length := fun i' h' q0 q1 =>
      ih l (j + 1) i' h' (by omega) (by omega) hl (fun k hk => by
        by_cases ek : k = j
        · rw [ek]; exact hzj
        · exact hD k (by omega)) (fun k hk => hz k (by omega)) q0 q1
    by_cases hq : slotF nm l < 0
    · cases c with
      | false =>
        obtain ⟨l', i', h', hr, r⟩ := hskip i3 g3 c0 c1
        exact ⟨l', i', h', Ev.step key (Ev.bind hslot (Ev.congr (fun k => by rw [if_pos hq, if_neg (by simp)]) hr)), r⟩
      | true =>
        have hfree : ∀ k, k < j → ¬ (l.getD k z69).f0.toList = nm.toList := fun k hk e => by
          have hle := idx_le nm l k 0 (by omega) e
          have : 0 ≤ impl_SlotOf.idx nm l 0 := by
            have hpos : ∀ (m : List S69) (a : Int), 0 ≤ a → (∃ k, k < m.length ∧ (m.getD k z69).f0.toList = nm.toList) → 0 ≤ impl_SlotOf.idx nm m a := by
              intro m
              induction m with
              | nil => intro a _ ⟨k, hk, _⟩; simp at hk
              | cons y r ihm =>
                intro a ha ⟨k, hk, hh⟩
                simp only [impl_SlotOf.idx]
                split
                · exact ha
                · rename_i hy
                  cases k with
                  | zero => exact absurd (by simpa using hh) hy
                  | succ k => exact ihm (a + 1) (by omega) ⟨k, by simpa using hk, by simpa using hh⟩
            exact hpos l 0 (by omega) ⟨k, by omega, e⟩
          unfold slotF at hq
          rw [if_neg hne] at hq
          omega
        have hget : ∀ k, k < 4 → (l.set j ⟨nm, 1 + x⟩).getD k z69 = if k = j then ⟨nm, 1 + x⟩ else l.getD k z69 := fun k hk => by
          by_cases ek : k = j
          · subst ek
            rw [if_pos rfl, List.getD_eq_getElem?_getD, List.getElem?_set_self hjl]
            rfl
          · rw [if_neg ek, List.getD_eq_getElem?_getD, List.getElem?_set_ne (Ne.symm ek), ← List.getD_eq_getElem?_getD]
        obtain ⟨l', i', h', hr, r⟩ := ih (l.set j ⟨nm, 1 + x⟩) (j + 1) i3 g3 (by omega) (by omega) (by rw [List.length_set]; exact hl) (fun k hk => by
          unfold DSlot
          by_cases ek : k = j
          · rw [hget k (by omega), if_pos ek]
            refine Or.inr ⟨hn, by show 1 ≤ 1 + x; omega, by show 1 + x ≤ 8; omega, fun q hq' => ?_⟩
            rw [hget q (by omega), if_neg (by omega)]
            exact hfree q (by omega)
          · rw [hget k (by omega), if_neg ek]
            rcases hD k (by omega) with h1 | h1
            · exact Or.inl h1
            · refine Or.inr ⟨h1.1, h1.2.1, h1.2.2.1, fun q hq' => ?_⟩
              rw [hget q (by omega), if_neg (by omega)]
              exact h1.2.2.2 q hq') (fun k hk => by
          by_cases k4 : k < 4
          · rw [hget k k4, if_neg (by omega)]
            exact hz k (by omega)
          · rw [List.getD_eq_getElem?_getD, List.getElem?_eq_none (by rw [List.length_set]; omega)]
            rfl) c0 c1
        exact ⟨l', i', h', Ev.step key (Ev.bind hslot (Ev.congr (fun k => by rw [if_pos hq, if_pos rfl]) hr)), r⟩
    · obtain ⟨l', i', h', hr, r⟩ := hskip i2 g2 b0 b1
      exact ⟨l', i', h', Ev.step key (Ev.bind hslot (Ev.congr (fun k => by rw [if_neg hq]) hr)), r⟩
/-- What l04Block draws. -/
def DBlock (b : Bool) (l : List S69) (t : ByteArray) : Prop := (b = true ∧ l.length = 4 ∧ t = ⟨#[]⟩ ∧ ∀ k, k < 4 → DSlot l k) ∨ (b = false ∧ l = [] ∧ t.size ≤ 16)
theorem l04block_ev (s : List Int) (hs : s.length ≤ 140737488351232) (i h : Int) (h0 : 0 ≤ i) (h1 : i ≤ s.length) : ∃ b l t i' h', Ev (fun k => spec_l04Block.f k s i h) (b, l, t, i', h') ∧ DBlock b l t ∧ 0 ≤ i' ∧ i' ≤ s.length := by
  obtain ⟨c, i1, g1, e1, a0, a1⟩ := once_some s hs i h 2 h0 h1
  cases c with
  | true =>
    obtain ⟨x, i2, g2, e2, b0, b1, x0, _, x1⟩ := below_some s hs i1 g1 17 a0 a1
    have hx := x1 (by omega)
    obtain ⟨t, i3, g3, ht, hsz, c0, c1⟩ := text_ev s hs i2 g2 x x0 (by omega) b0 b1
    refine ⟨false, [], t, i3, g3, ?_, Or.inr ⟨rfl, rfl, by omega⟩, c0, c1⟩
    unfold spec_l04Block.f
    simp only [e1, Option.bind_some, if_true, e2]
    exact Ev.bind ht (Ev.now _)
  | false =>
    have hdn : spec_DirNew.f = some (true, List.replicate 4 z69, ⟨#[]⟩) := rfl
    obtain ⟨l', i', h', hr, hl, hD, c0, c1⟩ := l04block_loop s hs true ⟨#[]⟩ 4 (List.replicate 4 z69) 0 i1 g1 (by omega) (by omega) rfl (fun k hk => by omega) (fun k _ => by
      rw [List.getD_eq_getElem?_getD, List.getElem?_replicate]
      split <;> rfl) a0 a1
    refine ⟨true, l', ⟨#[]⟩, i', h', ?_, Or.inl ⟨rfl, hl, rfl, hD⟩, c0, c1⟩
    unfold spec_l04Block.f
    simp only [e1, Option.bind_some, hdn, Bool.false_eq_true, if_false]
    exact hr

theorem long_loop (n c : Int) (h1 : n ≤ 100000) (d : Nat) : ∀ (l : List Int) (i : Int), 0 ≤ i → i ≤ n → n - i = d → l.length = n → ∃ t, Ev (fun k => spec_l01Long.l0 k n c l i) t ∧ (t.size : Int) = n := by
  induction d with
  | zero =>
    intro l i i0 i1 hd hl
    exact ⟨strOfNums l, Ev.last (fun k => by simp only [spec_l01Long.l0]; rw [if_neg (by omega)]), by rw [strOfNums_size]; omega⟩
  | succ d ih =>
    intro l i i0 i1 hd hl
    obtain ⟨t, ht, r⟩ := ih (l.set i.toNat c) (i + 1) (by omega) (by omega) (by omega) (by rw [List.length_set]; exact hl)
    refine ⟨t, Ev.step (fun k => ?_) ht, r⟩
    simp only [spec_l01Long.l0]
    rw [if_pos (by omega), if_pos i0, if_pos (by omega), w64 (x := i + 1) (by omega) (by omega)]
theorem long_ev (n c : Int) (h0 : 0 ≤ n) (h1 : n ≤ 100000) : ∃ t, Ev (fun k => spec_l01Long.f k n c) t ∧ (t.size : Int) = n := by
  obtain ⟨t, ht, r⟩ := long_loop n c h1 n.toNat (List.replicate n.toNat 0) 0 (by omega) h0 (by omega) (by simp; omega)
  refine ⟨t, Ev.congr (fun k => ?_) ht, r⟩
  unfold spec_l01Long.f
  rw [if_pos h0, if_pos (by omega)]

theorem pickint_some (s : List Int) (hs : s.length ≤ 140737488351232) (i h : Int) (l : List Int) (hl : 0 < l.length) (h0 : 0 ≤ i) (h1 : i ≤ s.length) : ∃ r i' h', spec_l01PickInt.f s i h l = some (r, i', h') ∧ r ∈ l ∧ 0 ≤ i' ∧ i' ≤ s.length := by
  obtain ⟨r, i', h', e, i0, i1, r0, _, r1⟩ := below_some s hs i h (l.length : Int) h0 h1
  have hr := r1 (by omega)
  refine ⟨rd l r, i', h', ?_, rd_mem r0 hr, i0, i1⟩
  unfold spec_l01PickInt.f
  rw [e]
  simp only [Option.bind_some]
  rw [if_pos r0, if_pos hr]

theorem l04any_ev (s : List Int) (hs : s.length ≤ 140737488351232) (i h : Int) (h0 : 0 ≤ i) (h1 : i ≤ s.length) : ∃ b l t i' h', Ev (fun k => spec_l04Any.f k s i h) (b, l, t, i', h') ∧ l.length ≤ 4 ∧ ((∀ x ∈ l, x.f0.size ≤ 7) ∧ t.size ≤ 17) ∧ 0 ≤ i' ∧ i' ≤ s.length := by
  obtain ⟨b, l, t, i1, g1, hblk, hD, a0, a1⟩ := l04block_ev s hs i h h0 h1
  have n5s : ∀ x ∈ n5, x.size ≤ 7 := fun x hx => by
    simp only [n5, List.mem_cons, List.not_mem_nil, or_false] at hx
    rcases hx with rfl | rfl | rfl | rfl | rfl <;> decide
  have hl : l.length ≤ 4 ∧ (∀ x ∈ l, x.f0.size ≤ 7) ∧ t.size ≤ 17 := by
    rcases hD with ⟨_, h4, ht, h⟩ | ⟨_, h, ht⟩
    · refine ⟨by omega, fun x hx => ?_, by rw [ht]; decide⟩
      obtain ⟨j, hj, e⟩ := List.mem_iff_getElem.1 hx
      have e2 : l.getD j z69 = x := by rw [List.getD_eq_getElem?_getD, List.getElem?_eq_getElem hj, ← e]; rfl
      have := h j (by omega)
      unfold DSlot at this
      rw [e2] at this
      rcases this with q | q
      · rw [q.1]; decide
      · exact n5s _ q.1
    · rw [h]
      exact ⟨by simp, fun x hx => by simp at hx, by omega⟩
  obtain ⟨hl4, hln, hlt⟩ := hl
  have hcp : spec_l04Copy.f b l t = some (b, l, t) := by
    unfold spec_l04Copy.f
    simp only [Option.bind_some]
    rw [if_pos (by simp; omega)]
    rfl
  have hset : ∀ (j : Nat) (v : S69), v.f0.size ≤ 7 → (l.set j v).length ≤ 4 ∧ ∀ x ∈ l.set j v, x.f0.size ≤ 7 := fun j v hv => ⟨by rw [List.length_set]; exact hl4, fun x hx => by
    rcases List.mem_or_eq_of_mem_set hx with q | q
    · exact hln x q
    · rw [q]; exact hv⟩
  obtain ⟨c, i2, g2, e2, b0, b1, c0, _, c1⟩ := below_some s hs i1 g1 12 a0 a1
  have hc := c1 (by omega)
  have gsz : ∀ j, (rd_T69 l j).f0.size ≤ 7 := fun j => by
    show (l.getD j.toNat z69).f0.size ≤ 7
    by_cases hj : j.toNat < l.length
    · exact hln _ (getD_mem (xs := l) (i := j.toNat) z69 hj)
    · rw [List.getD_eq_getElem?_getD, List.getElem?_eq_none (by omega)]
      decide
  unfold spec_l04Any.f
  by_cases k0 : c = 0
  · refine ⟨!b, l, t, i2, g2, Ev.bind hblk ?_, hl4, ⟨hln, hlt⟩, b0, b1⟩
    simp only [hcp, Option.bind_some, e2, if_pos k0]
    exact Ev.now _
  · by_cases k1 : c = 1
    · obtain ⟨x, i3, g3, e3, d0, d1, x0, _, x1⟩ := below_some s hs i2 g2 2 b0 b1
      have hx := x1 (by omega)
      obtain ⟨t', ht', hsz⟩ := long_ev (16 + x) 65 (by omega) (by omega)
      refine ⟨b, l, t', i3, g3, Ev.bind hblk ?_, hl4, ⟨hln, by omega⟩, d0, d1⟩
      simp only [hcp, Option.bind_some, e2, if_neg k0, if_pos k1, e3, w64 (x := 16 + x) (by omega) (by omega)]
      exact Ev.bind ht' (Ev.now _)
    · by_cases k2 : c = 2
      · by_cases hp : (l.length : Int) > 0
        · obtain ⟨x, i3, g3, e3, _, d0, d1⟩ := pickint_some s hs i2 g2 [(-1), 0, 8, 9] (by decide) b0 b1
          have h4 : l.length = 4 := by
            rcases hD with ⟨_, h4, _⟩ | ⟨_, h, _⟩
            · exact h4
            · rw [h] at hp; simp at hp
          refine ⟨b, l.set 1 ⟨(rd_T69 l 1).f0, x⟩, t, i3, g3, Ev.bind hblk ?_, (hset 1 ⟨(rd_T69 l 1).f0, x⟩ (gsz 1)).1, ⟨(hset 1 ⟨(rd_T69 l 1).f0, x⟩ (gsz 1)).2, hlt⟩, d0, d1⟩
          simp only [hcp, Option.bind_some, e2, if_neg k0, if_neg k1, if_pos k2, if_pos hp, e3]
          exact Ev.now' fun _ => by first | rfl | (rw [if_pos (by omega)]; rfl)
        · refine ⟨b, l, t, i2, g2, Ev.bind hblk ?_, hl4, ⟨hln, hlt⟩, b0, b1⟩
          simp only [hcp, Option.bind_some, e2, if_neg k0, if_neg k1, if_pos k2, if_neg hp]
          exact Ev.now _
      · by_cases k3 : c = 3
        · by_cases hp : (l.length : Int) > 0
          · obtain ⟨x, i3, g3, e3, hx, d0, d1⟩ := pick_some s hs i2 g2 [(⟨#[]⟩ : ByteArray), (⟨#[65]⟩ : ByteArray), (⟨#[97]⟩ : ByteArray), (⟨#[97, 98, 99, 100, 101, 102, 103]⟩ : ByteArray)] (by decide) b0 b1
            have hxs : x.size ≤ 7 := by
              simp only [List.mem_cons, List.not_mem_nil, or_false] at hx
              rcases hx with rfl | rfl | rfl | rfl <;> decide
            refine ⟨b, l.set 0 ⟨x, (rd_T69 l 0).f1⟩, t, i3, g3, Ev.bind hblk ?_, (hset 0 ⟨x, (rd_T69 l 0).f1⟩ hxs).1, ⟨(hset 0 ⟨x, (rd_T69 l 0).f1⟩ hxs).2, hlt⟩, d0, d1⟩
            simp only [hcp, Option.bind_some, e2, if_neg k0, if_neg k1, if_neg k2, if_pos k3, if_pos hp, e3]
            exact Ev.now' fun _ => by first | rfl | (rw [if_pos (by omega)]; rfl)
          · refine ⟨b, l, t, i2, g2, Ev.bind hblk ?_, hl4, ⟨hln, hlt⟩, b0, b1⟩
            simp only [hcp, Option.bind_some, e2, if_neg k0, if_neg k1, if_neg k2, if_pos k3, if_neg hp]
            exact Ev.now _
        · refine ⟨b, l, t, i2, g2, Ev.bind hblk ?_, hl4, ⟨hln, hlt⟩, b0, b1⟩
          simp only [hcp, Option.bind_some, e2, if_neg k0, if_neg k1, if_neg k2, if_neg k3]
          exact Ev.now _

theorem impl_block_loop (b : Bool) (l : List S69) (t : ByteArray) (hl : l.length ≤ 1048576) (hn : ∀ x ∈ l, x.f0.size ≤ 140737488351232) (d : Nat) : ∀ i : Nat, i ≤ l.length → l.length - i = d → Ev (fun n => impl_BlockOk.l0 n l (l.length : Int) i b l t) (dB ((∀ j, i ≤ j → j < l.length → SOk l j) ∧ l.length = 4 ∧ t.toList = ([] : List UInt8))) := by
  induction d with
  | zero =>
    intro i h1 hd
    refine Ev.last (fun n => ?_)
    simp only [impl_BlockOk.l0]
    rw [if_neg (by omega)]
    by_cases h4 : l.length = 4
    · rw [if_pos (by omega)]
      by_cases ht : t.toList = ([] : List UInt8)
      · rw [dB_true ⟨fun j h h' => by omega, h4, ht⟩, beq_iff_eq.2 ht]
      · rw [dB_false (fun h => ht h.2.2), beq_eq_false_iff_ne.2 ht]
    · rw [if_neg (by omega), dB_false (fun h => h4 h.2.1)]
  | succ d ih =>
    intro i h1 hd
    have hw : wrap64 ((i : Int) + 1) = ((i + 1 : Nat) : Int) := by rw [w64 (by omega) (by omega)]; omega
    have e0 : rd_T69 l (i : Int) = l.getD i z69 := rfl
    have hi := ih (i + 1) (by omega) (by omega)
    have hsz := hn _ (getD_mem (xs := l) (i := i) z69 (by omega))
    have yes : SOk l i → dB ((∀ j, i ≤ j → j < l.length → SOk l j) ∧ l.length = 4 ∧ t.toList = ([] : List UInt8)) = dB ((∀ j, i + 1 ≤ j → j < l.length → SOk l j) ∧ l.length = 4 ∧ t.toList = ([] : List UInt8)) := fun h => dB_congr ⟨fun q => ⟨fun j hj => q.1 j (by omega), q.2⟩, fun q => ⟨fun j hj hj' => by
      by_cases ej : j = i
      · rw [ej]; exact h
      · exact q.1 j (by omega) hj', q.2⟩⟩
    have no : ¬ SOk l i → dB ((∀ j, i ≤ j → j < l.length → SOk l j) ∧ l.length = 4 ∧ t.toList = ([] : List UInt8)) = false := fun h => dB_false (fun q => h (q.1 i (Nat.le_refl _) (by omega)))
    by_cases z : (l.getD i z69).f0.toList = ([] : List UInt8) ∧ (l.getD i z69).f1 = 0
    · rw [yes (Or.inl z)]
      refine Ev.step (fun n => ?_) hi
      simp only [impl_BlockOk.l0, e0]
      rw [if_pos (by omega), if_pos (by omega), if_pos (by omega), if_pos (by rw [Bool.and_eq_true, beq_iff_eq, beq_iff_eq]; exact z), hw]
    · have hz : ¬ ((((l.getD i z69).f0).toList) == ([] : List UInt8) && (((l.getD i z69).f1) == 0)) = true := by
        intro h
        rw [Bool.and_eq_true, beq_iff_eq, beq_iff_eq] at h
        exact z h
      have key : ∀ n, impl_BlockOk.l0 (n + 1) l (l.length : Int) i b l t = (impl_NameOk.f n (l.getD i z69).f0).bind (fun r => if r = true then (if (1 ≤ (l.getD i z69).f1 ∧ (l.getD i z69).f1 ≤ 8) then (impl_SlotOf.f b l t (l.getD i z69).f0).bind (fun q => if q = (i : Int) then impl_BlockOk.l0 n l (l.length : Int) ((i + 1 : Nat) : Int) b l t else some false) else some false) else some false) := fun n => by
        simp only [impl_BlockOk.l0, e0, impl_isIno.f, within_eq, Option.bind_some, decide_eq_true_eq]
        rw [if_pos (by omega), if_pos (by omega), if_pos (by omega), if_neg hz, hw]
      refine Ev.step key (Ev.bind (name_impl _ hsz) ?_)
      by_cases hb : nameB (l.getD i z69).f0 = true
      · refine Ev.congr (fun n => by rw [if_pos hb]) ?_
        by_cases hino : 1 ≤ (l.getD i z69).f1 ∧ (l.getD i z69).f1 ≤ 8
        · refine Ev.congr (fun n => by rw [if_pos hino]) ?_
          have hne := toList_ne (name_size _ hsz hb).1
          have hs : impl_SlotOf.f b l t (l.getD i z69).f0 = some (impl_SlotOf.idx (l.getD i z69).f0 l 0) := by
            unfold impl_SlotOf.f
            rw [if_neg hne]
          simp only [hs, Option.bind_some]
          by_cases hx : impl_SlotOf.idx (l.getD i z69).f0 l 0 = (i : Int)
          · have hok : SOk l i := Or.inr ⟨hb, hino.1, hino.2, (idx_self l i (by omega)).1 hx⟩
            rw [yes hok]
            exact Ev.congr (fun n => by rw [if_pos hx]) hi
          · rw [no (fun h => by
              rcases h with h | h
              · exact z h
              · exact hx ((idx_self l i (by omega)).2 h.2.2.2))]
            exact Ev.now' (fun n => by rw [if_neg hx])
        · rw [no (fun h => by
            rcases h with h | h
            · exact z h
            · exact hino ⟨h.2.1, h.2.2.1⟩)]
          exact Ev.now' (fun n => by rw [if_neg hino])
      · rw [no (fun h => by
          rcases h with h | h
          · exact z h
          · exact hb h.1)]
        exact Ev.now' (fun n => by rw [if_neg hb])
theorem impl_blockok (b : Bool) (l : List S69) (t : ByteArray) (hl : l.length ≤ 1048576) (hn : ∀ x ∈ l, x.f0.size ≤ 140737488351232) : Ev (fun n => impl_BlockOk.f n b l t) (dB (BOk b l t)) := by
  unfold impl_BlockOk.f
  by_cases hb : b = true
  · simp only [if_pos hb]
    have e : dB (BOk b l t) = dB ((∀ j, 0 ≤ j → j < l.length → SOk l j) ∧ l.length = 4 ∧ t.toList = ([] : List UInt8)) := dB_congr (by
      unfold BOk
      rw [if_pos hb]
      exact ⟨fun h => ⟨fun j _ hj => h.1 j hj, h.2⟩, fun h => ⟨fun j hj => h.1 j (Nat.zero_le _) hj, h.2⟩⟩)
    rw [e]
    exact impl_block_loop b l t hl hn l.length 0 (Nat.zero_le _) (by omega)
  · simp only [if_neg hb]
    refine Ev.now' (fun _ => ?_)
    have e : dB (BOk b l t) = dB (l.length = 0 ∧ t.size ≤ 16) := dB_congr (by unfold BOk; rw [if_neg hb])
    rw [e]
    by_cases h0 : l.length = 0
    · rw [if_pos (by omega)]
      by_cases h16 : t.size ≤ 16
      · rw [dB_true ⟨h0, h16⟩, decide_eq_true (by omega)]
      · rw [dB_false (fun h => h16 h.2), decide_eq_false (by omega)]
    · rw [if_neg (by omega), dB_false (fun h => h0 h.1)]

theorem fnslots_loop (s : List Int) (b : Bool) (l : List S69) (t : ByteArray) (hlen : l.length ≤ 4) (hslot : ∀ j, j < l.length → DSlot l j) (hend : ∀ (i : Int), ¬ i < (l.length : Int) → Ev (fun k => laws_FnSlots.l0 k s i b l t) true) : ∀ (d : Nat) (i : Nat), i ≤ l.length → l.length - i = d → Ev (fun k => laws_FnSlots.l0 k s (i : Int) b l t) true := by
  intro d
  induction d with
  | zero => intro i hi hd; exact hend i (by omega)
  | succ d ih =>
    intro i hi hd
    have hw : wrap64 ((i : Int) + 1) = ((i + 1 : Nat) : Int) := by rw [w64 (by omega) (by omega)]; omega
    have e0 : rd_T69 l (i : Int) = l.getD i z69 := rfl
    have hnext := ih (i + 1) (by omega) (by omega)
    rcases hslot i (by omega) with h | h
    · refine Ev.step (fun k => ?_) hnext
      simp only [laws_FnSlots.l0, e0]
      rw [if_pos (by omega), if_pos (by omega), if_pos (by rw [h.1]; exact empty_toList), hw]
    · obtain ⟨hn1, hn2⟩ := n5_ok _ h.1
      have hs0 : impl_SlotOf.f b l t (l.getD i z69).f0 = some (i : Int) := by
        unfold impl_SlotOf.f
        rw [if_neg hn2, (idx_self l i (by omega)).2 h.2.2.2]
      have hsz : (l.getD i z69).f0.size ≤ 140737488351232 := by
        have hx := h.1
        generalize (l.getD i z69).f0 = x at hx
        simp only [n5, List.mem_cons, List.not_mem_nil, or_false] at hx
        rcases hx with rfl | rfl | rfl | rfl | rfl <;> decide
      have key : ∀ k, laws_FnSlots.l0 (k + 1) s (i : Int) b l t = (impl_NameOk.f k (l.getD i z69).f0).bind (fun r => if r = true then laws_FnSlots.l0 k s ((i + 1 : Nat) : Int) b l t else some false) := fun k => by
        simp only [laws_FnSlots.l0, e0]
        rw [if_pos (by omega), if_pos (by omega), if_neg hn2, hs0, hw]
        simp only [Option.bind_some, if_true]
      exact Ev.step key (Ev.bind (name_impl _ hsz) (Ev.congr (fun k => by rw [if_pos hn1]) hnext))
set_option maxHeartbeats 1000000 in
theorem FnSlots : laws_FnSlots.Pure := by
  intro s hm hs _
  have hs' : s.length ≤ 140737488351232 := by omega
  unfold laws_FnSlots.f
  by_cases hb : (s.length : Int) > 1048576
  · refine ⟨0, ?_⟩
    rw [big_eq, decide_eq_true hb]
    rfl
  · obtain ⟨h0, hnew⟩ := new_ev s hs'
    obtain ⟨b, l, t, i1, g1, hblk, hD, a0, a1⟩ := l04block_ev s hs' 0 h0 (by omega) (by omega)
    have hdraw : Ev (fun k => spec_DrawBlock.f k s) (b, l, t) := by
      unfold spec_DrawBlock.f
      exact Ev.bind hnew (Ev.bind hblk (Ev.now _))
    rw [big_eq, decide_eq_false hb]
    simp only [Option.bind_some, Bool.false_eq_true, if_false]
    refine Ev.rounds (Ev.bind hdraw ?_)
    obtain ⟨b2, l2, t2, i2, g2, hany, hl2, hn2, c0, c1⟩ := l04any_ev s hs' 0 h0 (by omega) (by omega)
    obtain ⟨nm, hdso⟩ : ∃ nm, Ev (fun k => spec_DrawSlotOf.f k s) (b2, l2, t2, nm) := by
      obtain ⟨c, i3, g3, e3, d0, d1⟩ := once_some s hs' i2 g2 8 c0 c1
      cases c with
      | true =>
        refine ⟨⟨#[]⟩, ?_⟩
        unfold spec_DrawSlotOf.f
        refine Ev.bind hnew (Ev.bind hany ?_)
        simp only [e3, Option.bind_some, if_true]
        exact Ev.now _
      | false =>
        obtain ⟨r, i4, g4, e4, _, _, _⟩ := l04name_some s hs' i3 g3 d0 d1
        refine ⟨r, ?_⟩
        unfold spec_DrawSlotOf.f
        refine Ev.bind hnew (Ev.bind hany ?_)
        simp only [e3, Option.bind_some, Bool.false_eq_true, if_false, e4]
        exact Ev.now _
    obtain ⟨q, hdn, hqs⟩ : ∃ q, Ev (fun k => spec_DrawNameOk.f k s) q ∧ q.size ≤ 140737488351232 := by
      obtain ⟨r, i4, g4, e4, hr, _, _⟩ := pick_some s hs' 0 h0 [(⟨#[]⟩ : ByteArray), (⟨#[97]⟩ : ByteArray), (⟨#[97, 49]⟩ : ByteArray), (⟨#[65]⟩ : ByteArray), (⟨#[97, 98, 99, 100, 101, 102]⟩ : ByteArray), (⟨#[97, 98, 99, 100, 101, 102, 103]⟩ : ByteArray), (⟨#[97, 32, 98]⟩ : ByteArray), (⟨#[57]⟩ : ByteArray)] (by decide) (by omega) (by omega)
      refine ⟨r, ?_, ?_⟩
      · unfold spec_DrawNameOk.f
        refine Ev.bind hnew ?_
        simp only [e4, Option.bind_some]
        exact Ev.now _
      · simp only [List.mem_cons, List.not_mem_nil, or_false] at hr
        rcases hr with rfl | rfl | rfl | rfl | rfl | rfl | rfl | rfl <;> decide
    have hlen : l.length ≤ 4 := by
      rcases hD with ⟨_, h, _⟩ | ⟨_, h, _⟩
      · omega
      · rw [h]; simp
    have hslot : ∀ j, j < l.length → DSlot l j := fun j hj => by
      rcases hD with ⟨_, h4, _, h⟩ | ⟨_, h, _⟩
      · exact h j (by omega)
      · rw [h] at hj; simp at hj
    have hzz : slotF ⟨#[122, 122]⟩ l = -1 := by
      unfold slotF
      rw [if_neg (by decide +kernel), impl_SlotOf.idx_miss]
      intro j hj e
      rcases hslot j hj with h | h
      · rw [h.1] at e
        revert e
        decide +kernel
      · have hx := h.1
        generalize (l.getD j z69).f0 = x at hx e
        simp only [n5, List.mem_cons, List.not_mem_nil, or_false] at hx
        rcases hx with rfl | rfl | rfl | rfl | rfl <;> (revert e; decide +kernel)
    have hdir : impl_DirNew.f = some (true, List.replicate 4 z69, ⟨#[]⟩) := rfl
    have hbd : dB (BOk true (List.replicate 4 z69) ⟨#[]⟩) = true := dB_true (by
      unfold BOk
      rw [if_pos rfl]
      refine ⟨fun j hj => Or.inl ?_, rfl, empty_toList⟩
      have e : (List.replicate 4 z69).getD j z69 = z69 := by
        rw [List.getD_eq_getElem?_getD, List.getElem?_replicate]
        split <;> rfl
      rw [e]
      exact ⟨empty_toList, rfl⟩)
    have hend : ∀ (i : Int), ¬ i < (l.length : Int) → Ev (fun k => laws_FnSlots.l0 k s i b l t) true := fun i hi => by
      have key : ∀ k, laws_FnSlots.l0 (k + 1) s i b l t = (spec_DrawSlotOf.f k s).bind (fun bt301 => (spec_DrawNameOk.f k s).bind fun t308 => (impl_BlockOk.f k true (List.replicate 4 z69) ⟨#[]⟩).bind fun t311 => if t311 = true then (impl_SlotOf.f bt301.1 bt301.2.1 bt301.2.2.1 bt301.2.2.2).bind fun t312 => (spec_SlotOf.f k bt301.1 bt301.2.1 bt301.2.2.1 bt301.2.2.2).bind fun t313 => if t312 = t313 then (impl_NameOk.f k t308).bind fun t314 => (spec_NameOk.f k t308).bind fun t315 => some (t314 == t315) else some false else some false) := fun k => by
        have z1 : impl_SlotOf.f b l t ⟨#[122, 122]⟩ = some (-1) := by
          rw [← hzz]
          unfold impl_SlotOf.f slotF
          split <;> rfl
        have z2 : impl_SlotOf.f true (List.replicate 4 z69) ⟨#[]⟩ ⟨#[]⟩ = some (-1) := by
          unfold impl_SlotOf.f
          rw [if_pos empty_toList]
        simp only [laws_FnSlots.l0]
        rw [if_neg hi, hdir]
        simp only [Option.bind_some, z1, z2, if_true]
        rfl
      refine Ev.step key (Ev.bind hdso (Ev.bind hdn (Ev.bind (impl_blockok true (List.replicate 4 z69) ⟨#[]⟩ (by simp) (fun x hx => by
        rw [List.eq_of_mem_replicate hx]
        decide)) ?_)))
      rw [hbd]
      simp only [if_true]
      refine Ev.bind (impl_slotof b2 l2 t2 nm) (Ev.bind (spec_slotof b2 l2 t2 nm (by omega)) ?_)
      simp only [if_true]
      exact Ev.bind (name_impl q hqs) (Ev.bind (name_spec q hqs) (Ev.now' fun _ => by simp))
    exact fnslots_loop s b l t hlen hslot hend l.length 0 (Nat.zero_le _) rfl
end Go.Proofs.Ytdnbpapolckklaa.Pure
