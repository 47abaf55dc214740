/- FnBlocks: for every draw, a drawn right block comes back from its bytes, and drawn bytes that are a block's are the bytes of that block; no condition. -/
import Derived.Test.YtdnbpapolckklaaPFnBlocksx13
import Derived.Test.YtdnbpapolckklaaAid
namespace Go.Proofs.Ytdnbpapolckklaa.Pure
open Go.RowKit Go.Proofs.Ytdnbpapolckklaa.PFnBlocks Go.Proofs.YtdnbpapolckklaaW.PrintWords Go.Proofs.YtdnbpapolckklaaW.PrintLast Go.Proofs.YtdnbpapolckklaaW.PrintMore Go.Proofs.Ytdnbpapolckklaa.Aid
set_option linter.unusedVariables false
set_option linter.unusedSimpArgs false

theorem big_eq (l : List Int) : laws_big.f l = some (decide ((l.length : Int) > 1048576)) := rfl

theorem byte_some (s : List Int) (hs : s.length ≤ 140737488351232) (i h : Int) (h0 : 0 ≤ i) (h1 : i ≤ s.length) : ∃ b i' h', spec_l01Byte.f s i h = some (b, i', h') ∧ 0 ≤ b ∧ b ≤ 255 ∧ 0 ≤ i' ∧ i' ≤ s.length := by
  unfold spec_l01Byte.f
  by_cases hi : i < (s.length : Int)
  · rw [if_pos hi, if_pos h0, w64 (x := i + 1) (by omega) (by omega), and255]
    exact ⟨_, _, _, rfl, by omega, by omega, by omega, by omega⟩
  · rw [if_neg hi, and255]
    exact ⟨_, _, _, rfl, by omega, by omega, by omega, by omega⟩

theorem text_loop (s : List Int) (hs : s.length ≤ 140737488351232) (n : Int) (hn : n ≤ 5000) (d : Nat) : ∀ (l : List Int) (j i h : Int), 0 ≤ j → j ≤ n → n - j = d → l.length = j → 0 ≤ i → i ≤ s.length → ∃ t i' h', Ev (fun k => spec_l01Text.l0 k n l j s i h) (t, i', h') ∧ (t.size : Int) = n ∧ 0 ≤ i' ∧ i' ≤ s.length := by
  induction d with
  | zero =>
    intro l j i h j0 j1 hd hl h0 h1
    exact ⟨strOfNums l, i, h, Ev.last (fun k => by simp only [spec_l01Text.l0]; rw [if_neg (by omega)]), by rw [strOfNums_size]; omega, h0, h1⟩
  | succ d ih =>
    intro l j i h j0 j1 hd hl h0 h1
    obtain ⟨b, i1, g1, e, _, _, i0, i2⟩ := byte_some s hs i h h0 h1
    obtain ⟨t, i', h', ht, r⟩ := ih (l ++ [b % 256]) (j + 1) i1 g1 (by omega) (by omega) (by omega) (by simp; omega) i0 i2
    refine ⟨t, i', h', Ev.step (fun k => ?_) ht, r⟩
    simp only [spec_l01Text.l0]
    rw [if_pos (by omega), e]
    simp only [Option.bind_some]
    rw [if_pos (by omega), w64 (x := j + 1) (by omega) (by omega)]
theorem text_ev (s : List Int) (hs : s.length ≤ 140737488351232) (i h n : Int) (n0 : 0 ≤ n) (n1 : n ≤ 5000) (h0 : 0 ≤ i) (h1 : i ≤ s.length) : ∃ t i' h', Ev (fun k => spec_l01Text.f k s i h n) (t, i', h') ∧ (t.size : Int) = n ∧ 0 ≤ i' ∧ i' ≤ s.length := by
  obtain ⟨t, i', h', ht, r⟩ := text_loop s hs n n1 n.toNat [] 0 i h (by omega) n0 (by omega) rfl h0 h1
  refine ⟨t, i', h', ?_, r⟩
  refine Ev.congr (fun k => ?_) (Ev.step (g := fun k => spec_l01Text.j0 k n s i h) (fun k => by simp only [spec_l01Text.j0]) ht)
  unfold spec_l01Text.f
  rw [if_neg (by omega)]

theorem below_some (s : List Int) (hs : s.length ≤ 140737488351232) (i h n : Int) (h0 : 0 ≤ i) (h1 : i ≤ s.length) : ∃ r i' h', spec_l01Below.f s i h n = some (r, i', h') ∧ 0 ≤ i' ∧ i' ≤ s.length ∧ 0 ≤ r ∧ (n ≤ 0 → r = 0) ∧ (0 < n → r < n) := by
  unfold spec_l01Below.f
  by_cases hn : n ≤ 0
  · rw [if_pos hn]
    exact ⟨_, _, _, rfl, h0, h1, by omega, fun _ => rfl, fun h => by omega⟩
  · rw [if_neg hn]
    by_cases hm : n ≤ 256
    · rw [if_pos hm]
      obtain ⟨b, i1, h1', e, b0, b1, c0, c1⟩ := byte_some s hs i h h0 h1
      rw [e]
      simp only [Option.bind_some]
      rw [if_neg (by omega), tmod_nn b0]
      have p0 := Int.emod_nonneg b (show n ≠ 0 by omega)
      have p1 := Int.emod_lt_of_pos b (show 0 < n by omega)
      exact ⟨_, _, _, rfl, c0, c1, p0, fun h => by omega, fun _ => p1⟩
    · rw [if_neg hm]
      obtain ⟨a, i1, g1, e1, a0, a1, c0, c1⟩ := byte_some s hs i h h0 h1
      rw [e1]
      simp only [Option.bind_some]
      obtain ⟨b, i2, g2, e2, b0, b1, d0, d1⟩ := byte_some s hs i1 g1 c0 c1
      rw [e2]
      simp only [Option.bind_some]
      obtain ⟨c, i3, g3, e3, k0, k1, f0, f1⟩ := byte_some s hs i2 g2 d0 d1
      rw [e3]
      simp only [Option.bind_some]
      obtain ⟨d, i4, g4, e4, l0, l1, m0, m1⟩ := byte_some s hs i3 g3 f0 f1
      rw [e4]
      simp only [Option.bind_some]
      rw [if_neg (by omega), w64 (x := a * 16777216) (by omega) (by omega), w64 (x := b * 65536) (by omega) (by omega), w64 (x := c * 256) (by omega) (by omega), w64 (x := a * 16777216 + b * 65536) (by omega) (by omega),
        w64 (x := a * 16777216 + b * 65536 + c * 256) (by omega) (by omega), w64 (x := a * 16777216 + b * 65536 + c * 256 + d) (by omega) (by omega), tmod_nn (by omega)]
      have p0 := Int.emod_nonneg (a * 16777216 + b * 65536 + c * 256 + d) (show n ≠ 0 by omega)
      have p1 := Int.emod_lt_of_pos (a * 16777216 + b * 65536 + c * 256 + d) (show 0 < n by omega)
      exact ⟨_, _, _, rfl, m0, m1, p0, fun h => by omega, fun _ => p1⟩

theorem pick_some (s : List Int) (hs : s.length ≤ 140737488351232) (i h : Int) (l : List ByteArray) (hl : 0 < l.length) (h0 : 0 ≤ i) (h1 : i ≤ s.length) : ∃ r i' h', spec_l01Pick.f s i h l = some (r, i', h') ∧ r ∈ l ∧ 0 ≤ i' ∧ i' ≤ s.length := by
  obtain ⟨r, i', h', e, i0, i1, r0, _, r1⟩ := below_some s hs i h (l.length : Int) h0 h1
  have hr := r1 (by omega)
  refine ⟨rdOf ByteArray.empty l r, i', h', ?_, getD_mem (xs := l) (i := r.toNat) ByteArray.empty (by omega), i0, i1⟩
  unfold spec_l01Pick.f
  rw [e]
  simp only [Option.bind_some]
  rw [if_pos r0, if_pos hr]

theorem once_some (s : List Int) (hs : s.length ≤ 140737488351232) (i h n : Int) (h0 : 0 ≤ i) (h1 : i ≤ s.length) : ∃ b i' h', spec_l01Once.f s i h n = some (b, i', h') ∧ 0 ≤ i' ∧ i' ≤ s.length := by
  unfold spec_l01Once.f
  obtain ⟨r, i1, g1, e, c0, c1, _⟩ := below_some s hs i h n h0 h1
  rw [e]
  exact ⟨_, _, _, rfl, c0, c1⟩

theorem new_ends (s : List Int) (hs : s.length ≤ 140737488351232) (d : Nat) : ∀ (h i : Int), 0 ≤ i → i ≤ s.length → (s.length : Int) - i = d → ∃ h', Ev (fun k => spec_l01New.l0 k s h i) (s, 0, h') := by
  induction d with
  | zero =>
    intro h i h0 h1 hd
    exact ⟨h, Ev.last (fun k => by simp only [spec_l01New.l0]; rw [if_neg (by omega)])⟩
  | succ d ih =>
    intro h i h0 h1 hd
    by_cases hf : i < 4000
    · obtain ⟨h', hr⟩ := ih (Go.bits .and .i64 (wrap64 ((wrap64 ((wrap64 (h * 131)) + (wrap64 (rd s i)))) + 7)) 1073741823) (i + 1) (by omega) (by omega) (by omega)
      exact ⟨h', Ev.step (fun k => by simp only [spec_l01New.l0]; rw [if_pos (by omega), if_pos hf, if_pos h0, w64 (x := i + 1) (by omega) (by omega)]) hr⟩
    · exact ⟨h, Ev.last (fun k => by simp only [spec_l01New.l0]; rw [if_pos (by omega), if_neg hf])⟩
theorem new_ev (s : List Int) (hs : s.length ≤ 140737488351232) : ∃ h, Ev (fun k => spec_l01New.f k s) (s, 0, h) := by
  obtain ⟨h, hr⟩ := new_ends s hs s.length (wrap64 (37701 + (s.length : Int))) 0 (by omega) (by omega) (by omega)
  exact ⟨h, hr⟩

/-- The place of the first slot with this name; -1 for the empty name and without one. -/
def slotF (nm : ByteArray) (l : List S69) : Int := if nm.toList = ([] : List UInt8) then -1 else impl_SlotOf.idx nm l 0
theorem impl_slotof (b : Bool) (l : List S69) (t nm : ByteArray) : Ev (fun _ => impl_SlotOf.f b l t nm) (slotF nm l) := Ev.now' fun _ => by
  unfold impl_SlotOf.f slotF
  split <;> rfl
theorem spec_slotof_loop (b : Bool) (l : List S69) (t nm : ByteArray) (hl : l.length ≤ 1048576) (d : Nat) : ∀ (i : Int), 0 ≤ i → i ≤ l.length → (l.length : Int) - i = d → (¬ nm.toList = ([] : List UInt8) → ∀ j : Nat, (j : Int) < i → ¬ (l.getD j z69).f0.toList = nm.toList) → Ev (fun k => spec_SlotOf.l0 k nm i b l t) (slotF nm l) := by
  induction d with
  | zero =>
    intro i h0 h1 hd hno
    refine Ev.last (fun k => ?_)
    simp only [spec_SlotOf.l0]
    rw [if_neg (by omega)]
    unfold slotF
    by_cases e : nm.toList = ([] : List UInt8)
    · rw [if_pos e]
    · rw [if_neg e, impl_SlotOf.idx_miss nm l 0 (fun j hj => hno e j (by omega))]
  | succ d ih =>
    intro i h0 h1 hd hno
    have hw : wrap64 (i + 1) = i + 1 := w64 (by omega) (by omega)
    have e0 : rd_T69 l i = l.getD i.toNat z69 := rfl
    by_cases e : nm.toList = ([] : List UInt8)
    · refine Ev.step (fun k => ?_) (ih (i + 1) (by omega) (by omega) (by omega) (fun h => absurd e h))
      simp only [spec_SlotOf.l0]
      rw [if_pos (by omega), if_pos e, hw]
    · by_cases hit : (l.getD i.toNat z69).f0.toList = nm.toList
      · refine Ev.last (fun k => ?_)
        simp only [spec_SlotOf.l0, e0]
        rw [if_pos (by omega), if_neg e, if_pos h0, if_pos hit]
        unfold slotF
        rw [if_neg e, impl_SlotOf.idx_hit nm l i.toNat 0 (by omega) hit (fun j hj => hno e j (by omega))]
        congr 1
        omega
      · refine Ev.step (fun k => ?_) (ih (i + 1) (by omega) (by omega) (by omega) (fun h j hj => by
          by_cases ej : j = i.toNat
          · rw [ej]; exact hit
          · exact hno h j (by omega)))
        simp only [spec_SlotOf.l0, e0]
        rw [if_pos (by omega), if_neg e, if_pos h0, if_neg hit, hw]
theorem spec_slotof (b : Bool) (l : List S69) (t nm : ByteArray) (hl : l.length ≤ 1048576) : Ev (fun k => spec_SlotOf.f k b l t nm) (slotF nm l) :=
  spec_slotof_loop b l t nm hl l.length 0 (by omega) (by omega) (by omega) (fun _ j hj => by omega)

theorem in_eq (a b c : Int) : spec_l01In.f a b c = some (decide (b ≤ a ∧ a ≤ c)) := by
  unfold spec_l01In.f
  by_cases h : a ≥ b
  · rw [if_pos h]
    simp [show b ≤ a from h]
  · rw [if_neg h]
    simp [show ¬ b ≤ a from h]

theorem within_eq (a b c : Int) : impl_within.f a b c = some (decide (b ≤ a ∧ a ≤ c)) := by
  unfold impl_within.f
  by_cases h : a ≥ b
  · rw [if_pos h]
    simp [show b ≤ a from h]
  · rw [if_neg h]
    simp [show ¬ b ≤ a from h]

theorem name_ev (s : ByteArray) (hs : s.size ≤ 140737488351232) : ∃ r, Ev (fun k => spec_NameOk.f k s) r ∧ Ev (fun k => impl_NameOk.f k s) r ∧ (r = true → 1 ≤ s.size ∧ s.size ≤ 6) := by
  have loop : ∀ (d : Nat) (i : Int), 0 ≤ i → i ≤ s.size → (s.size : Int) - i = d → ∃ r, Ev (fun k => spec_NameOk.l0 k s i) r ∧ Ev (fun k => impl_NameOk.l0 k s (s.size : Int) i) r ∧ (r = true → 1 ≤ s.size ∧ s.size ≤ 6) := by
    intro d
    induction d with
    | zero =>
      intro i h0 h1 hd
      refine ⟨decide (1 ≤ (s.size : Int) ∧ (s.size : Int) ≤ 6), Ev.last fun k => ?_, Ev.last fun k => ?_, fun h => ?_⟩
      · simp only [spec_NameOk.l0]
        rw [if_neg (by omega), in_eq]
        rfl
      · simp only [impl_NameOk.l0]
        rw [if_neg (by omega), within_eq]
        rfl
      · have := of_decide_eq_true h
        omega
    | succ d ih =>
      intro i h0 h1 hd
      have hi : i < (s.size : Int) := by omega
      have hw : wrap64 (i + 1) = i + 1 := w64 (by omega) (by omega)
      have hb := bt_range s i
      have hwb : wrap64 (bt s i) = bt s i := w64 (by omega) (by omega)
      obtain ⟨r, hr1, hr2, hr3⟩ := ih (i + 1) (by omega) (by omega) (by omega)
      have es : ∀ k, spec_NameOk.l0 (k + 1) s i = if (97 ≤ bt s i ∧ bt s i ≤ 122) ∨ (48 ≤ bt s i ∧ bt s i ≤ 57) then spec_NameOk.l0 k s (i + 1) else some false := fun k => by
        simp only [spec_NameOk.l0]
        rw [if_pos hi, if_pos h0, hw]
        split <;> split <;> (try split) <;> (try split) <;> (try split) <;> first | rfl | omega
      have ei : ∀ k, impl_NameOk.l0 (k + 1) s (s.size : Int) i = if (97 ≤ bt s i ∧ bt s i ≤ 122) ∨ (48 ≤ bt s i ∧ bt s i ≤ 57) then impl_NameOk.l0 k s (s.size : Int) (i + 1) else some false := fun k => by
        simp only [impl_NameOk.l0]
        rw [if_pos hi, if_pos h0, if_pos hi, hw, hwb, within_eq, within_eq]
        simp only [Option.bind_some, decide_eq_true_eq]
        split <;> (try split) <;> (try split) <;> first | rfl | omega
      by_cases c : (97 ≤ bt s i ∧ bt s i ≤ 122) ∨ (48 ≤ bt s i ∧ bt s i ≤ 57)
      · exact ⟨r, Ev.step (fun k => by rw [es, if_pos c]) hr1, Ev.step (fun k => by rw [ei, if_pos c]) hr2, hr3⟩
      · exact ⟨false, Ev.last (fun k => by rw [es, if_neg c]), Ev.last (fun k => by rw [ei, if_neg c]), fun h => by simp at h⟩
  exact loop s.size 0 (by omega) (by omega) (by omega)
/-- Whether a text is a right name. -/
noncomputable def nameB (s : ByteArray) : Bool := if h : s.size ≤ 140737488351232 then (name_ev s h).choose else false
theorem nameB_eq (s : ByteArray) (h : s.size ≤ 140737488351232) : nameB s = (name_ev s h).choose := by
  unfold nameB
  rw [dif_pos h]
theorem name_spec (s : ByteArray) (h : s.size ≤ 140737488351232) : Ev (fun k => spec_NameOk.f k s) (nameB s) := by
  rw [nameB_eq s h]
  exact (name_ev s h).choose_spec.1
theorem name_impl (s : ByteArray) (h : s.size ≤ 140737488351232) : Ev (fun k => impl_NameOk.f k s) (nameB s) := by
  rw [nameB_eq s h]
  exact (name_ev s h).choose_spec.2.1
theorem name_size (s : ByteArray) (h : s.size ≤ 140737488351232) (hb : nameB s = true) : 1 ≤ s.size ∧ s.size ≤ 6 := by
  rw [nameB_eq s h] at hb
  exact (name_ev s h).choose_spec.2.2 hb

open Classical in
/-- A proposition as a Bool. -/
noncomputable def dB (p : Prop) : Bool := decide p
theorem dB_true {p : Prop} (h : p) : dB p = true := @decide_eq_true p (Classical.propDecidable p) h
theorem dB_false {p : Prop} (h : ¬ p) : dB p = false := @decide_eq_false p (Classical.propDecidable p) h
theorem dB_congr {p q : Prop} (h : p ↔ q) : dB p = dB q := by rw [propext h]
theorem of_dB {p : Prop} (h : dB p = true) : p := Classical.byContradiction fun hp => by rw [dB_false hp] at h; exact absurd h (by decide)
/-- The slot at j is empty, or right and the first of its name. -/
def SOk (l : List S69) (j : Nat) : Prop := ((l.getD j z69).f0.toList = ([] : List UInt8) ∧ (l.getD j z69).f1 = 0) ∨ (nameB (l.getD j z69).f0 = true ∧ 1 ≤ (l.getD j z69).f1 ∧ (l.getD j z69).f1 ≤ 8 ∧ ∀ k, k < j → ¬ (l.getD k z69).f0.toList = (l.getD j z69).f0.toList)
/-- A right block. -/
def BOk (b : Bool) (l : List S69) (t : ByteArray) : Prop := if b = true then (∀ j, j < l.length → SOk l j) ∧ l.length = 4 ∧ t.toList = ([] : List UInt8) else l.length = 0 ∧ t.size ≤ 16
theorem idx_le (nm : ByteArray) (l : List S69) (k : Nat) (i : Int) (hk : k < l.length) (h : (l.getD k z69).f0.toList = nm.toList) : impl_SlotOf.idx nm l i ≤ i + k := by
  induction l generalizing k i with
  | nil => simp at hk
  | cons x r ih =>
    simp only [impl_SlotOf.idx]
    split
    · omega
    · rename_i hx
      cases k with
      | zero => exact absurd (by simpa using h) hx
      | succ k =>
        have := ih k (i + 1) (by simpa using hk) (by simpa using h)
        omega
theorem idx_self (l : List S69) (j : Nat) (hj : j < l.length) : impl_SlotOf.idx (l.getD j z69).f0 l 0 = (j : Int) ↔ ∀ k, k < j → ¬ (l.getD k z69).f0.toList = (l.getD j z69).f0.toList := by
  constructor
  · intro h k hk e
    have := idx_le (l.getD j z69).f0 l k 0 (by omega) e
    omega
  · intro h
    rw [impl_SlotOf.idx_hit (l.getD j z69).f0 l j 0 hj rfl h]
    omega
theorem toList_ne {s : ByteArray} (h : 1 ≤ s.size) : ¬ s.toList = ([] : List UInt8) := fun e => by
  rw [Go.Lib.toList_data] at e
  have h2 : s.data.toList.length = 0 := by rw [e]; rfl
  rw [Array.length_toList] at h2
  have h3 : s.size = s.data.size := rfl
  omega
theorem empty_toList0 : (⟨#[]⟩ : ByteArray).toList = ([] : List UInt8) := by decide +kernel

def n5 : List ByteArray := [(⟨#[97]⟩ : ByteArray), (⟨#[98]⟩ : ByteArray), (⟨#[99]⟩ : ByteArray), (⟨#[100, 100]⟩ : ByteArray), (⟨#[101, 49]⟩ : ByteArray)]
theorem n5_ok : ∀ x ∈ n5, nameB x = true ∧ ¬ x.toList = ([] : List UInt8) := by
  have key : ∀ x : ByteArray, x.size ≤ 140737488351232 → (∃ k, spec_NameOk.f k x = some true) → nameB x = true := fun x hx ⟨k, h⟩ => by
    obtain ⟨K, hK⟩ := name_spec x hx
    have h1 := hK (max k K) (Nat.le_max_right _ _)
    have h2 := (Ev.of (fun k => spec_NameOk.mono x k) h)
    obtain ⟨K2, hK2⟩ := h2
    have h3 := hK2 (max K K2) (Nat.le_max_right _ _)
    have h4 := hK (max K K2) (Nat.le_max_left _ _)
    rw [h4] at h3
    exact Option.some.inj h3
  intro x hx
  simp only [n5, List.mem_cons, List.not_mem_nil, or_false] at hx
  rcases hx with rfl | rfl | rfl | rfl | rfl <;> exact ⟨key _ (by decide) ⟨4, by decide +kernel⟩, by decide +kernel⟩
theorem l04name_some (s : List Int) (hs : s.length ≤ 140737488351232) (i h : Int) (h0 : 0 ≤ i) (h1 : i ≤ s.length) : ∃ r i' h', spec_l04Name.f s i h = some (r, i', h') ∧ r ∈ n5 ∧ 0 ≤ i' ∧ i' ≤ s.length := by
  obtain ⟨r, i', h', e, hr, i0, i1⟩ := pick_some s hs i h n5 (by decide) h0 h1
  refine ⟨r, i', h', ?_, hr, i0, i1⟩
  unfold spec_l04Name.f
  show (spec_l01Pick.f s i h n5).bind _ = _
  rw [e]
  rfl
/-- What a drawn directory's slots are: each named one has a right name, which no earlier one has, and an inode from 1 to 8. -/
def DSlot (l : List S69) (j : Nat) : Prop := ((l.getD j z69).f0 = (⟨#[]⟩ : ByteArray) ∧ (l.getD j z69).f1 = 0) ∨ ((l.getD j z69).f0 ∈ n5 ∧ 1 ≤ (l.getD j z69).f1 ∧ (l.getD j z69).f1 ≤ 8 ∧ ∀ k, k < j → ¬ (l.getD k z69).f0.toList = (l.getD j z69).f0.toList)
theorem empty_toList : (⟨#[]⟩ : ByteArray).toList = ([] : List UInt8) := by decide +kernel
set_option maxHeartbeats 1000000 in
theorem l04block_loop (s : List Int) (hs : s.length ≤ 140737488351232) (b : Bool) (t : ByteArray) (d : Nat) : ∀ (l : List S69) (j : Nat) (i h : Int), j ≤ 4 → 4 - j = d → l.length = 4 → (∀ k, k < j → DSlot l k) → (∀ k, j ≤ k → l.getD k z69 = z69) → 0 ≤ i → i ≤ s.length → ∃ l' i' h', Ev (fun k => spec_l04Block.l0 k (j : Int) s i h b l t) (b, l', t, i', h') ∧ l'.length = 4 ∧ (∀ k, k < 4 → DSlot l' k) ∧ 0 ≤ i' ∧ i' ≤ s.length := by
  induction d with
  | zero =>
    intro l j i h j4 hd hl hD hz h0 h1
    exact ⟨l, i, h, Ev.last (fun k => by simp only [spec_l04Block.l0]; rw [if_neg (by omega)]), hl, fun k hk => hD k (by omega), h0, h1⟩
  | succ d ih =>
    intro l j i h j4 hd hl hD hz h0 h1
    have hjl : j < l.length := by omega
    have hw : wrap64 ((j : Int) + 1) = ((j + 1 : Nat) : Int) := by rw [w64 (by omega) (by omega)]; omega
    obtain ⟨nm, i1, g1, e1, hn, a0, a1⟩ := l04name_some s hs i h h0 h1
    obtain ⟨x, i2, g2, e2, b0, b1, x0, _, x1⟩ := below_some s hs i1 g1 8 a0 a1
    have hx8 := x1 (by omega)
    obtain ⟨c, i3, g3, e3, c0, c1⟩ := once_some s hs i2 g2 2 b0 b1
    have hw2 : wrap64 (1 + x) = 1 + x := w64 (by omega) (by omega)
    have hzj : DSlot l j := Or.inl (by rw [hz j (Nat.le_refl _)]; exact ⟨rfl, rfl⟩)
    have hne := (n5_ok nm hn).2
    have hslot := spec_slotof b l t nm (by omega)
    have key : ∀ k, spec_l04Block.l0 (k + 1) (j : Int) s i h b l t = (spec_SlotOf.f k b l t nm).bind (fun q => if q < 0 then (if c = true then spec_l04Block.l0 k ((j + 1 : Nat) : Int) s i3 g3 b (l.set j ⟨nm, 1 + x⟩) t else spec_l04Block.l0 k ((j + 1 : Nat) : Int) s i3 g3 b l t) else spec_l04Block.l0 k ((j + 1 : Nat) : Int) s i2 g2 b l t) := fun k => by
      simp only [spec_l04Block.l0]
      rw [if_pos (by omega), e1]
      simp only [Option.bind_some, e2, e3, hw, hw2]
      rw [if_pos (show (0 : Int) ≤ (j : Int) by omega), if_pos (show (j : Int) < (l.length : Int) by omega)]
      rfl
    have hskip : ∀ i' h' : Int, 0 ≤ i' → i' ≤ s.length → ∃ l' i'' h'', Ev (fun k => spec_l04Block.l0 k ((j + 1 : Nat) : Int) s i' h' b l t) (b, l', t, i'', h'') ∧ l'.length = 4 ∧ (∀ k, k < 4 → DSlot l' k) ∧ 0 ≤ i'' ∧ i'' ≤ s.length := fun i' h' q0 q1 =>
      ih l (j + 1) i' h' (by omega) (by omega) hl (fun k hk => by
        by_cases ek : k = j
        · rw [ek]; exact hzj
        · exact hD k (by omega)) (fun k hk => hz k (by omega)) q0 q1
    by_cases hq : slotF nm l < 0
    · cases c with
      | false =>
        obtain ⟨l', i', h', hr, r⟩ := hskip i3 g3 c0 c1
        exact ⟨l', i', h', Ev.step key (Ev.bind hslot (Ev.congr (fun k => by rw [if_pos hq, if_neg (by simp)]) hr)), r⟩
      | true =>
        have hfree : ∀ k, k < j → ¬ (l.getD k z69).f0.toList = nm.toList := fun k hk e => by
          have hle := idx_le nm l k 0 (by omega) e
          have : 0 ≤ impl_SlotOf.idx nm l 0 := by
            have hpos : ∀ (m : List S69) (a : Int), 0 ≤ a → (∃ k, k < m.length ∧ (m.getD k z69).f0.toList = nm.toList) → 0 ≤ impl_SlotOf.idx nm m a := by
              intro m
              induction m with
              | nil => intro a _ ⟨k, hk, _⟩; simp at hk
              | cons y r ihm =>
                intro a ha ⟨k, hk, hh⟩
                simp only [impl_SlotOf.idx]
                split
                · exact ha
                · rename_i hy
                  cases k with
                  | zero => exact absurd (by simpa using hh) hy
                  | succ k => exact ihm (a + 1) (by omega) ⟨k, by simpa using hk, by simpa using hh⟩
            exact hpos l 0 (by omega) ⟨k, by omega, e⟩
          unfold slotF at hq
          rw [if_neg hne] at hq
          omega
        have hget : ∀ k, k < 4 → (l.set j ⟨nm, 1 + x⟩).getD k z69 = if k = j then ⟨nm, 1 + x⟩ else l.getD k z69 := fun k hk => by
          by_cases ek : k = j
          · subst ek
            rw [if_pos rfl, List.getD_eq_getElem?_getD, List.getElem?_set_self hjl]
            rfl
          · rw [if_neg ek, List.getD_eq_getElem?_getD, List.getElem?_set_ne (Ne.symm ek), ← List.getD_eq_getElem?_getD]
        obtain ⟨l', i', h', hr, r⟩ := ih (l.set j ⟨nm, 1 + x⟩) (j + 1) i3 g3 (by omega) (by omega) (by rw [List.length_set]; exact hl) (fun k hk => by
          unfold DSlot
          by_cases ek : k = j
          · rw [hget k (by omega), if_pos ek]
            refine Or.inr ⟨hn, by show 1 ≤ 1 + x; omega, by show 1 + x ≤ 8; omega, fun q hq' => ?_⟩
            rw [hget q (by omega), if_neg (by omega)]
            exact hfree q (by omega)
          · rw [hget k (by omega), if_neg ek]
            rcases hD k (by omega) with h1 | h1
            · exact Or.inl h1
            · refine Or.inr ⟨h1.1, h1.2.1, h1.2.2.1, fun q hq' => ?_⟩
              rw [hget q (by omega), if_neg (by omega)]
              exact h1.2.2.2 q hq') (fun k hk => by
          by_cases k4 : k < 4
          · rw [hget k k4, if_neg (by omega)]
            exact hz k (by omega)
          · rw [List.getD_eq_getElem?_getD, List.getElem?_eq_none (by rw [List.length_set]; omega)]
            rfl) c0 c1
        exact ⟨l', i', h', Ev.step key (Ev.bind hslot (Ev.congr (fun k => by rw [if_pos hq, if_pos rfl]) hr)), r⟩
    · obtain ⟨l', i', h', hr, r⟩ := hskip i2 g2 b0 b1
      exact ⟨l', i', h', Ev.step key (Ev.bind hslot (Ev.congr (fun k => by rw [if_neg hq]) hr)), r⟩
/-- What l04Block draws. -/
def DBlock (b : Bool) (l : List S69) (t : ByteArray) : Prop := (b = true ∧ l.length = 4 ∧ t = ⟨#[]⟩ ∧ ∀ k, k < 4 → DSlot l k) ∨ (b = false ∧ l = [] ∧ t.size ≤ 16)
theorem l04block_ev (s : List Int) (hs : s.length ≤ 140737488351232) (i h : Int) (h0 : 0 ≤ i) (h1 : i ≤ s.length) : ∃ b l t i' h', Ev (fun k => spec_l04Block.f k s i h) (b, l, t, i', h') ∧ DBlock b l t ∧ 0 ≤ i' ∧ i' ≤ s.length := by
  obtain ⟨c, i1, g1, e1, a0, a1⟩ := once_some s hs i h 2 h0 h1
  cases c with
  | true =>
    obtain ⟨x, i2, g2, e2, b0, b1, x0, _, x1⟩ := below_some s hs i1 g1 17 a0 a1
    have hx := x1 (by omega)
    obtain ⟨t, i3, g3, ht, hsz, c0, c1⟩ := text_ev s hs i2 g2 x x0 (by omega) b0 b1
    refine ⟨false, [], t, i3, g3, ?_, Or.inr ⟨rfl, rfl, by omega⟩, c0, c1⟩
    unfold spec_l04Block.f
    simp only [e1, Option.bind_some, if_true, e2]
    exact Ev.bind ht (Ev.now _)
  | false =>
    have hdn : spec_DirNew.f = some (true, List.replicate 4 z69, ⟨#[]⟩) := rfl
    obtain ⟨l', i', h', hr, hl, hD, c0, c1⟩ := l04block_loop s hs true ⟨#[]⟩ 4 (List.replicate 4 z69) 0 i1 g1 (by omega) (by omega) rfl (fun k hk => by omega) (fun k _ => by
      rw [List.getD_eq_getElem?_getD, List.getElem?_replicate]
      split <;> rfl) a0 a1
    refine ⟨true, l', ⟨#[]⟩, i', h', ?_, Or.inl ⟨rfl, hl, rfl, hD⟩, c0, c1⟩
    unfold spec_l04Block.f
    simp only [e1, Option.bind_some, hdn, Bool.false_eq_true, if_false]
    exact hr

theorem long_loop (n c : Int) (h1 : n ≤ 100000) (d : Nat) : ∀ (l : List Int) (i : Int), 0 ≤ i → i ≤ n → n - i = d → l.length = n → ∃ t, Ev (fun k => spec_l01Long.l0 k n c l i) t ∧ (t.size : Int) = n := by
  induction d with
  | zero =>
    intro l i i0 i1 hd hl
    exact ⟨strOfNums l, Ev.last (fun k => by simp only [spec_l01Long.l0]; rw [if_neg (by omega)]), by rw [strOfNums_size]; omega⟩
  | succ d ih =>
    intro l i i0 i1 hd hl
    obtain ⟨t, ht, r⟩ := ih (l.set i.toNat c) (i + 1) (by omega) (by omega) (by omega) (by rw [List.length_set]; exact hl)
    refine ⟨t, Ev.step (fun k => ?_) ht, r⟩
    simp only [spec_l01Long.l0]
    rw [if_pos (by omega), if_pos i0, if_pos (by omega), w64 (x := i + 1) (by omega) (by omega)]
theorem long_ev (n c : Int) (h0 : 0 ≤ n) (h1 : n ≤ 100000) : ∃ t, Ev (fun k => spec_l01Long.f k n c) t ∧ (t.size : Int) = n := by
  obtain ⟨t, ht, r⟩ := long_loop n c h1 n.toNat (List.replicate n.toNat 0) 0 (by omega) h0 (by omega) (by simp; omega)
  refine ⟨t, Ev.congr (fun k => ?_) ht, r⟩
  unfold spec_l01Long.f
  rw [if_pos h0, if_pos (by omega)]

theorem pickint_some (s : List Int) (hs : s.length ≤ 140737488351232) (i h : Int) (l : List Int) (hl : 0 < l.length) (h0 : 0 ≤ i) (h1 : i ≤ s.length) : ∃ r i' h', spec_l01PickInt.f s i h l = some (r, i', h') ∧ r ∈ l ∧ 0 ≤ i' ∧ i' ≤ s.length := by
  obtain ⟨r, i', h', e, i0, i1, r0, _, r1⟩ := below_some s hs i h (l.length : Int) h0 h1
  have hr := r1 (by omega)
  refine ⟨rd l r, i', h', ?_, rd_mem r0 hr, i0, i1⟩
  unfold spec_l01PickInt.f
  rw [e]
  simp only [Option.bind_some]
  rw [if_pos r0, if_pos hr]

theorem l04any_ev (s : List Int) (hs : s.length ≤ 140737488351232) (i h : Int) (h0 : 0 ≤ i) (h1 : i ≤ s.length) : ∃ b l t i' h', Ev (fun k => spec_l04Any.f k s i h) (b, l, t, i', h') ∧ l.length ≤ 4 ∧ ((∀ x ∈ l, x.f0.size ≤ 7) ∧ t.size ≤ 17) ∧ 0 ≤ i' ∧ i' ≤ s.length := by
  obtain ⟨b, l, t, i1, g1, hblk, hD, a0, a1⟩ := l04block_ev s hs i h h0 h1
  have n5s : ∀ x ∈ n5, x.size ≤ 7 := fun x hx => by
    simp only [n5, List.mem_cons, List.not_mem_nil, or_false] at hx
    rcases hx with rfl | rfl | rfl | rfl | rfl <;> decide
  have hl : l.length ≤ 4 ∧ (∀ x ∈ l, x.f0.size ≤ 7) ∧ t.size ≤ 17 := by
    rcases hD with ⟨_, h4, ht, h⟩ | ⟨_, h, ht⟩
    · refine ⟨by omega, fun x hx => ?_, by rw [ht]; decide⟩
      obtain ⟨j, hj, e⟩ := List.mem_iff_getElem.1 hx
      have e2 : l.getD j z69 = x := by rw [List.getD_eq_getElem?_getD, List.getElem?_eq_getElem hj, ← e]; rfl
      have := h j (by omega)
      unfold DSlot at this
      rw [e2] at this
      rcases this with q | q
      · rw [q.1]; decide
      · exact n5s _ q.1
    · rw [h]
      exact ⟨by simp, fun x hx => by simp at hx, by omega⟩
  obtain ⟨hl4, hln, hlt⟩ := hl
  have hcp : spec_l04Copy.f b l t = some (b, l, t) := by
    unfold spec_l04Copy.f
    simp only [Option.bind_some]
    rw [if_pos (by simp; omega)]
    rfl
  have hset : ∀ (j : Nat) (v : S69), v.f0.size ≤ 7 → (l.set j v).length ≤ 4 ∧ ∀ x ∈ l.set j v, x.f0.size ≤ 7 := fun j v hv => ⟨by rw [List.length_set]; exact hl4, fun x hx => by
    rcases List.mem_or_eq_of_mem_set hx with q | q
    · exact hln x q
    · rw [q]; exact hv⟩
  obtain ⟨c, i2, g2, e2, b0, b1, c0, _, c1⟩ := below_some s hs i1 g1 12 a0 a1
  have hc := c1 (by omega)
  have gsz : ∀ j, (rd_T69 l j).f0.size ≤ 7 := fun j => by
    show (l.getD j.toNat z69).f0.size ≤ 7
    by_cases hj : j.toNat < l.length
    · exact hln _ (getD_mem (xs := l) (i := j.toNat) z69 hj)
    · rw [List.getD_eq_getElem?_getD, List.getElem?_eq_none (by omega)]
      decide
  unfold spec_l04Any.f
  by_cases k0 : c = 0
  · refine ⟨!b, l, t, i2, g2, Ev.bind hblk ?_, hl4, ⟨hln, hlt⟩, b0, b1⟩
    simp only [hcp, Option.bind_some, e2, if_pos k0]
    exact Ev.now _
  · by_cases k1 : c = 1
    · obtain ⟨x, i3, g3, e3, d0, d1, x0, _, x1⟩ := below_some s hs i2 g2 2 b0 b1
      have hx := x1 (by omega)
      obtain ⟨t', ht', hsz⟩ := long_ev (16 + x) 65 (by omega) (by omega)
      refine ⟨b, l, t', i3, g3, Ev.bind hblk ?_, hl4, ⟨hln, by omega⟩, d0, d1⟩
      simp only [hcp, Option.bind_some, e2, if_neg k0, if_pos k1, e3, w64 (x := 16 + x) (by omega) (by omega)]
      exact Ev.bind ht' (Ev.now _)
    · by_cases k2 : c = 2
      · by_cases hp : (l.length : Int) > 0
        · obtain ⟨x, i3, g3, e3, _, d0, d1⟩ := pickint_some s hs i2 g2 [(-1), 0, 8, 9] (by decide) b0 b1
          have h4 : l.length = 4 := by
            rcases hD with ⟨_, h4, _⟩ | ⟨_, h, _⟩
            · exact h4
            · rw [h] at hp; simp at hp
          refine ⟨b, l.set 1 ⟨(rd_T69 l 1).f0, x⟩, t, i3, g3, Ev.bind hblk ?_, (hset 1 ⟨(rd_T69 l 1).f0, x⟩ (gsz 1)).1, ⟨(hset 1 ⟨(rd_T69 l 1).f0, x⟩ (gsz 1)).2, hlt⟩, d0, d1⟩
          simp only [hcp, Option.bind_some, e2, if_neg k0, if_neg k1, if_pos k2, if_pos hp, e3]
          exact Ev.now' fun _ => by first | rfl | (rw [if_pos (by omega)]; rfl)
        · refine ⟨b, l, t, i2, g2, Ev.bind hblk ?_, hl4, ⟨hln, hlt⟩, b0, b1⟩
          simp only [hcp, Option.bind_some, e2, if_neg k0, if_neg k1, if_pos k2, if_neg hp]
          exact Ev.now _
      · by_cases k3 : c = 3
        · by_cases hp : (l.length : Int) > 0
          · obtain ⟨x, i3, g3, e3, hx, d0, d1⟩ := pick_some s hs i2 g2 [(⟨#[]⟩ : ByteArray), (⟨#[65]⟩ : ByteArray), (⟨#[97]⟩ : ByteArray), (⟨#[97, 98, 99, 100, 101, 102, 103]⟩ : ByteArray)] (by decide) b0 b1
            have hxs : x.size ≤ 7 := by
              simp only [List.mem_cons, List.not_mem_nil, or_false] at hx
              rcases hx with rfl | rfl | rfl | rfl <;> decide
            refine ⟨b, l.set 0 ⟨x, (rd_T69 l 0).f1⟩, t, i3, g3, Ev.bind hblk ?_, (hset 0 ⟨x, (rd_T69 l 0).f1⟩ hxs).1, ⟨(hset 0 ⟨x, (rd_T69 l 0).f1⟩ hxs).2, hlt⟩, d0, d1⟩
            simp only [hcp, Option.bind_some, e2, if_neg k0, if_neg k1, if_neg k2, if_pos k3, if_pos hp, e3]
            exact Ev.now' fun _ => by first | rfl | (rw [if_pos (by omega)]; rfl)
          · refine ⟨b, l, t, i2, g2, Ev.bind hblk ?_, hl4, ⟨hln, hlt⟩, b0, b1⟩
            simp only [hcp, Option.bind_some, e2, if_neg k0, if_neg k1, if_neg k2, if_pos k3, if_neg hp]
            exact Ev.now _
        · refine ⟨b, l, t, i2, g2, Ev.bind hblk ?_, hl4, ⟨hln, hlt⟩, b0, b1⟩
          simp only [hcp, Option.bind_some, e2, if_neg k0, if_neg k1, if_neg k2, if_neg k3]
          exact Ev.now _

theorem spec_block_l1 (b : Bool) (l : List S69) (t : ByteArray) (hl : l.length = 4) (x3 : Nat) (h3 : x3 < 4) (R : Bool) (hR : Ev (fun n => spec_BlockOk.l0 n ((x3 : Int) + 1) b l t) R) (nm : ByteArray) (ino : Int) (d : Nat) : ∀ x5 : Nat, x5 ≤ x3 → x3 - x5 = d → Ev (fun n => spec_BlockOk.l1 n x3 x5 b l t nm ino) (dB ((∀ k, x5 ≤ k → k < x3 → ¬ (l.getD k z69).f0.toList = nm.toList) ∧ R = true)) := by
  induction d with
  | zero =>
    intro x5 h5 hd
    have hw : wrap64 ((x3 : Int) + 1) = (x3 : Int) + 1 := w64 (by omega) (by omega)
    have e : dB ((∀ k, x5 ≤ k → k < x3 → ¬ (l.getD k z69).f0.toList = nm.toList) ∧ R = true) = R := by
      cases R with
      | true => exact dB_true ⟨fun k h h' => by omega, rfl⟩
      | false => exact dB_false (fun h => by simp at h)
    rw [e]
    refine Ev.step (fun n => ?_) hR
    simp only [spec_BlockOk.l1]
    rw [if_neg (by omega), hw]
  | succ d ih =>
    intro x5 h5 hd
    have hw : wrap64 ((x5 : Int) + 1) = ((x5 + 1 : Nat) : Int) := by rw [w64 (by omega) (by omega)]; omega
    have e0 : rd_T69 l (x5 : Int) = l.getD x5 z69 := rfl
    by_cases hit : (l.getD x5 z69).f0.toList = nm.toList
    · rw [dB_false (fun h => h.1 x5 (Nat.le_refl _) (by omega) hit)]
      refine Ev.last (fun n => ?_)
      simp only [spec_BlockOk.l1, e0]
      rw [if_pos (by omega), if_pos (by omega), if_pos (by omega), if_pos hit]
    · have e : dB ((∀ k, x5 ≤ k → k < x3 → ¬ (l.getD k z69).f0.toList = nm.toList) ∧ R = true) = dB ((∀ k, x5 + 1 ≤ k → k < x3 → ¬ (l.getD k z69).f0.toList = nm.toList) ∧ R = true) := dB_congr ⟨fun h => ⟨fun k hk => h.1 k (by omega), h.2⟩, fun h => ⟨fun k hk hk' => by
        by_cases ek : k = x5
        · rw [ek]; exact hit
        · exact h.1 k (by omega) hk', h.2⟩⟩
      rw [e]
      refine Ev.step (fun n => ?_) (ih (x5 + 1) (by omega) (by omega))
      simp only [spec_BlockOk.l1, e0]
      rw [if_pos (by omega), if_pos (by omega), if_pos (by omega), if_neg hit, hw]
theorem spec_block_l0 (b : Bool) (l : List S69) (t : ByteArray) (hl : l.length = 4) (hn : ∀ x ∈ l, x.f0.size ≤ 140737488351232) (d : Nat) : ∀ i : Nat, i ≤ 4 → 4 - i = d → Ev (fun n => spec_BlockOk.l0 n i b l t) (dB (∀ j, i ≤ j → j < 4 → SOk l j)) := by
  induction d with
  | zero =>
    intro i h4 hd
    rw [dB_true (fun j h h' => by omega)]
    refine Ev.last (fun n => ?_)
    simp only [spec_BlockOk.l0]
    rw [if_neg (by omega)]
  | succ d ih =>
    intro i h4 hd
    have hw : wrap64 ((i : Int) + 1) = (i : Int) + 1 := w64 (by omega) (by omega)
    have e0 : rd_T69 l (i : Int) = l.getD i z69 := rfl
    have hi := ih (i + 1) (by omega) (by omega)
    have e1 : ((i + 1 : Nat) : Int) = (i : Int) + 1 := by omega
    rw [e1] at hi
    have hsz := hn _ (getD_mem (xs := l) (i := i) z69 (by omega))
    have split1 : dB (∀ j, i ≤ j → j < 4 → SOk l j) = dB (SOk l i ∧ dB (∀ j, i + 1 ≤ j → j < 4 → SOk l j) = true) := dB_congr ⟨fun h => ⟨h i (Nat.le_refl _) (by omega), dB_true (fun j hj => h j (by omega))⟩, fun h j hj hj' => by
      by_cases ej : j = i
      · rw [ej]; exact h.1
      · exact of_dB h.2 j (by omega) hj'⟩
    rw [split1]
    generalize hR : dB (∀ j, i + 1 ≤ j → j < 4 → SOk l j) = R at hi
    by_cases z : (l.getD i z69).f0.toList = ([] : List UInt8) ∧ (l.getD i z69).f1 = 0
    · have e : dB (SOk l i ∧ R = true) = R := by
        cases R with
        | true => exact dB_true ⟨Or.inl z, rfl⟩
        | false => exact dB_false (fun h => by simp at h)
      rw [e]
      refine Ev.step (f := fun n => spec_BlockOk.j2 n i ((l.getD i z69).f1 == 0) b l t (l.getD i z69).f0 (l.getD i z69).f1) (fun n => ?_) (Ev.step (fun n => ?_) hi)
      · simp only [spec_BlockOk.l0, e0]
        rw [if_pos (by omega), if_pos (by omega), if_pos (by omega), if_pos z.1]
      · simp only [spec_BlockOk.j2]
        rw [if_pos (beq_iff_eq.2 z.2), hw]
    · have hj2 : Ev (fun n => spec_BlockOk.j2 n i false b l t (l.getD i z69).f0 (l.getD i z69).f1) (dB (SOk l i ∧ R = true)) := by
        have key : ∀ n, spec_BlockOk.j2 (n + 1) i false b l t (l.getD i z69).f0 (l.getD i z69).f1 = (spec_NameOk.f n (l.getD i z69).f0).bind (fun r => if r = true then spec_BlockOk.j3 n i (!decide (1 ≤ (l.getD i z69).f1 ∧ (l.getD i z69).f1 ≤ 8)) b l t (l.getD i z69).f0 (l.getD i z69).f1 else spec_BlockOk.j3 n i true b l t (l.getD i z69).f0 (l.getD i z69).f1) := fun n => by
          simp only [spec_BlockOk.j2, in_eq, Option.bind_some, Bool.false_eq_true, if_false]
        have no : ¬ (SOk l i ∧ R = true) → Ev (fun n => spec_BlockOk.j3 n i true b l t (l.getD i z69).f0 (l.getD i z69).f1) (dB (SOk l i ∧ R = true)) := fun h => by
          rw [dB_false h]
          exact Ev.last (fun n => by simp only [spec_BlockOk.j3]; rfl)
        refine Ev.step key (Ev.bind (name_spec _ hsz) ?_)
        by_cases hb : nameB (l.getD i z69).f0 = true
        · refine Ev.congr (fun n => by rw [if_pos hb]) ?_
          by_cases hino : 1 ≤ (l.getD i z69).f1 ∧ (l.getD i z69).f1 ≤ 8
          · have e2 : (!decide (1 ≤ (l.getD i z69).f1 ∧ (l.getD i z69).f1 ≤ 8)) = false := by rw [decide_eq_true hino]; rfl
            rw [e2]
            have e : dB (SOk l i ∧ R = true) = dB ((∀ k, 0 ≤ k → k < i → ¬ (l.getD k z69).f0.toList = (l.getD i z69).f0.toList) ∧ R = true) := dB_congr ⟨fun h => ⟨fun k _ hk => by
              rcases h.1 with h1 | h1
              · exact absurd h1 z
              · exact h1.2.2.2 k hk, h.2⟩, fun h => ⟨Or.inr ⟨hb, hino.1, hino.2, fun k hk => h.1 k (Nat.zero_le _) hk⟩, h.2⟩⟩
            rw [e]
            have := spec_block_l1 b l t hl i (by omega) R hi (l.getD i z69).f0 (l.getD i z69).f1 i 0 (Nat.zero_le _) (by omega)
            refine Ev.step (fun n => ?_) this
            simp only [spec_BlockOk.j3, Bool.false_eq_true, if_false]
            rfl
          · have e2 : (!decide (1 ≤ (l.getD i z69).f1 ∧ (l.getD i z69).f1 ≤ 8)) = true := by rw [decide_eq_false hino]; rfl
            rw [e2]
            exact no (fun h => by
              rcases h.1 with h1 | h1
              · exact z h1
              · exact hino ⟨h1.2.1, h1.2.2.1⟩)
        · refine Ev.congr (fun n => by rw [if_neg hb]) ?_
          exact no (fun h => by
            rcases h.1 with h1 | h1
            · exact z h1
            · exact hb h1.1)
      refine Ev.step (fun n => ?_) hj2
      simp only [spec_BlockOk.l0, e0]
      rw [if_pos (by omega), if_pos (by omega), if_pos (by omega)]
      by_cases e : (l.getD i z69).f0.toList = ([] : List UInt8)
      · rw [if_pos e]
        have : ((l.getD i z69).f1 == 0) = false := beq_eq_false_iff_ne.2 (fun h => z ⟨e, h⟩)
        rw [this]
      · rw [if_neg e]
theorem spec_blockok (b : Bool) (l : List S69) (t : ByteArray) (hn : ∀ x ∈ l, x.f0.size ≤ 140737488351232) : Ev (fun n => spec_BlockOk.f n b l t) (dB (BOk b l t)) := by
  unfold spec_BlockOk.f
  by_cases hb : b = true
  · simp only [if_pos hb]
    have no : ¬ BOk b l t → Ev (fun n => spec_BlockOk.j0 n true b l t) (dB (BOk b l t)) := fun h => by
      rw [dB_false h]
      exact Ev.last (fun n => by simp only [spec_BlockOk.j0]; rfl)
    by_cases h4 : l.length = 4
    · have h4' : (l.length : Int) = 4 := by omega
      simp only [if_pos h4']
      by_cases ht : t.toList = ([] : List UInt8)
      · have e1 : (t.toList != ([] : List UInt8)) = false := bne_eq_false_iff_eq.2 ht
        have e : dB (BOk b l t) = dB (∀ j, 0 ≤ j → j < 4 → SOk l j) := dB_congr (by
          unfold BOk
          rw [if_pos hb]
          exact ⟨fun h j _ hj => h.1 j (by omega), fun h => ⟨fun j hj => h j (Nat.zero_le _) (by omega), h4, ht⟩⟩)
        rw [e, e1]
        refine Ev.step (fun n => ?_) (spec_block_l0 b l t h4 hn 4 0 (by omega) (by omega))
        simp only [spec_BlockOk.j0, Bool.false_eq_true, if_false]
        rfl
      · have e1 : (t.toList != ([] : List UInt8)) = true := bne_iff_ne.2 ht
        rw [e1]
        exact no (fun h => by
          unfold BOk at h
          rw [if_pos hb] at h
          exact ht h.2.2)
    · have h4' : ¬ (l.length : Int) = 4 := by omega
      simp only [if_neg h4']
      exact no (fun h => by
        unfold BOk at h
        rw [if_pos hb] at h
        exact h4 h.2.1)
  · simp only [if_neg hb]
    refine Ev.now' (fun _ => ?_)
    have e : dB (BOk b l t) = dB (l.length = 0 ∧ t.size ≤ 16) := dB_congr (by unfold BOk; rw [if_neg hb])
    rw [e]
    by_cases h0 : l.length = 0
    · rw [if_pos (by omega)]
      by_cases h16 : t.size ≤ 16
      · rw [dB_true ⟨h0, h16⟩, decide_eq_true (by omega)]
      · rw [dB_false (fun h => h16 h.2), decide_eq_false (by omega)]
    · rw [if_neg (by omega), dB_false (fun h => h0 h.1)]

theorem impl_block_loop (b : Bool) (l : List S69) (t : ByteArray) (hl : l.length ≤ 1048576) (hn : ∀ x ∈ l, x.f0.size ≤ 140737488351232) (d : Nat) : ∀ i : Nat, i ≤ l.length → l.length - i = d → Ev (fun n => impl_BlockOk.l0 n l (l.length : Int) i b l t) (dB ((∀ j, i ≤ j → j < l.length → SOk l j) ∧ l.length = 4 ∧ t.toList = ([] : List UInt8))) := by
  induction d with
  | zero =>
    intro i h1 hd
    refine Ev.last (fun n => ?_)
    simp only [impl_BlockOk.l0]
    rw [if_neg (by omega)]
    by_cases h4 : l.length = 4
    · rw [if_pos (by omega)]
      by_cases ht : t.toList = ([] : List UInt8)
      · rw [dB_true ⟨fun j h h' => by omega, h4, ht⟩, beq_iff_eq.2 ht]
      · rw [dB_false (fun h => ht h.2.2), beq_eq_false_iff_ne.2 ht]
    · rw [if_neg (by omega), dB_false (fun h => h4 h.2.1)]
  | succ d ih =>
    intro i h1 hd
    have hw : wrap64 ((i : Int) + 1) = ((i + 1 : Nat) : Int) := by rw [w64 (by omega) (by omega)]; omega
    have e0 : rd_T69 l (i : Int) = l.getD i z69 := rfl
    have hi := ih (i + 1) (by omega) (by omega)
    have hsz := hn _ (getD_mem (xs := l) (i := i) z69 (by omega))
    have yes : SOk l i → dB ((∀ j, i ≤ j → j < l.length → SOk l j) ∧ l.length = 4 ∧ t.toList = ([] : List UInt8)) = dB ((∀ j, i + 1 ≤ j → j < l.length → SOk l j) ∧ l.length = 4 ∧ t.toList = ([] : List UInt8)) := fun h => dB_congr ⟨fun q => ⟨fun j hj => q.1 j (by omega), q.2⟩, fun q => ⟨fun j hj hj' => by
      by_cases ej : j = i
      · rw [ej]; exact h
      · exact q.1 j (by omega) hj', q.2⟩⟩
    have no : ¬ SOk l i → dB ((∀ j, i ≤ j → j < l.length → SOk l j) ∧ l.length = 4 ∧ t.toList = ([] : List UInt8)) = false := fun h => dB_false (fun q => h (q.1 i (Nat.le_refl _) (by omega)))
    by_cases z : (l.getD i z69).f0.toList = ([] : List UInt8) ∧ (l.getD i z69).f1 = 0
    · rw [yes (Or.inl z)]
      refine Ev.step (fun n => ?_) hi
      simp only [impl_BlockOk.l0, e0]
      rw [if_pos (by omega), if_pos (by omega), if_pos (by omega), if_pos (by rw [Bool.and_eq_true, beq_iff_eq, beq_iff_eq]; exact z), hw]
    · have hz : ¬ ((((l.getD i z69).f0).toList) == ([] : List UInt8) && (((l.getD i z69).f1) == 0)) = true := by
        intro h
        rw [Bool.and_eq_true, beq_iff_eq, beq_iff_eq] at h
        exact z h
      have key : ∀ n, impl_BlockOk.l0 (n + 1) l (l.length : Int) i b l t = (impl_NameOk.f n (l.getD i z69).f0).bind (fun r => if r = true then (if (1 ≤ (l.getD i z69).f1 ∧ (l.getD i z69).f1 ≤ 8) then (impl_SlotOf.f b l t (l.getD i z69).f0).bind (fun q => if q = (i : Int) then impl_BlockOk.l0 n l (l.length : Int) ((i + 1 : Nat) : Int) b l t else some false) else some false) else some false) := fun n => by
        simp only [impl_BlockOk.l0, e0, impl_isIno.f, within_eq, Option.bind_some, decide_eq_true_eq]
        rw [if_pos (by omega), if_pos (by omega), if_pos (by omega), if_neg hz, hw]
      refine Ev.step key (Ev.bind (name_impl _ hsz) ?_)
      by_cases hb : nameB (l.getD i z69).f0 = true
      · refine Ev.congr (fun n => by rw [if_pos hb]) ?_
        by_cases hino : 1 ≤ (l.getD i z69).f1 ∧ (l.getD i z69).f1 ≤ 8
        · refine Ev.congr (fun n => by rw [if_pos hino]) ?_
          have hne := toList_ne (name_size _ hsz hb).1
          have hs : impl_SlotOf.f b l t (l.getD i z69).f0 = some (impl_SlotOf.idx (l.getD i z69).f0 l 0) := by
            unfold impl_SlotOf.f
            rw [if_neg hne]
          simp only [hs, Option.bind_some]
          by_cases hx : impl_SlotOf.idx (l.getD i z69).f0 l 0 = (i : Int)
          · have hok : SOk l i := Or.inr ⟨hb, hino.1, hino.2, (idx_self l i (by omega)).1 hx⟩
            rw [yes hok]
            exact Ev.congr (fun n => by rw [if_pos hx]) hi
          · rw [no (fun h => by
              rcases h with h | h
              · exact z h
              · exact hx ((idx_self l i (by omega)).2 h.2.2.2))]
            exact Ev.now' (fun n => by rw [if_neg hx])
        · rw [no (fun h => by
            rcases h with h | h
            · exact z h
            · exact hino ⟨h.2.1, h.2.2.1⟩)]
          exact Ev.now' (fun n => by rw [if_neg hino])
      · rw [no (fun h => by
          rcases h with h | h
          · exact z h
          · exact hb h.1)]
        exact Ev.now' (fun n => by rw [if_neg hb])
theorem impl_blockok (b : Bool) (l : List S69) (t : ByteArray) (hl : l.length ≤ 1048576) (hn : ∀ x ∈ l, x.f0.size ≤ 140737488351232) : Ev (fun n => impl_BlockOk.f n b l t) (dB (BOk b l t)) := by
  unfold impl_BlockOk.f
  by_cases hb : b = true
  · simp only [if_pos hb]
    have e : dB (BOk b l t) = dB ((∀ j, 0 ≤ j → j < l.length → SOk l j) ∧ l.length = 4 ∧ t.toList = ([] : List UInt8)) := dB_congr (by
      unfold BOk
      rw [if_pos hb]
      exact ⟨fun h => ⟨fun j _ hj => h.1 j hj, h.2⟩, fun h => ⟨fun j hj => h.1 j (Nat.zero_le _) hj, h.2⟩⟩)
    rw [e]
    exact impl_block_loop b l t hl hn l.length 0 (Nat.zero_le _) (by omega)
  · simp only [if_neg hb]
    refine Ev.now' (fun _ => ?_)
    have e : dB (BOk b l t) = dB (l.length = 0 ∧ t.size ≤ 16) := dB_congr (by unfold BOk; rw [if_neg hb])
    rw [e]
    by_cases h0 : l.length = 0
    · rw [if_pos (by omega)]
      by_cases h16 : t.size ≤ 16
      · rw [dB_true ⟨h0, h16⟩, decide_eq_true (by omega)]
      · rw [dB_false (fun h => h16 h.2), decide_eq_false (by omega)]
    · rw [if_neg (by omega), dB_false (fun h => h0 h.1)]


theorem bytetexts_loop (p : List Int) (hp : p.length ≤ 1048576) (d : Nat) : ∀ (l : List Int) (i : Nat), i ≤ p.length → p.length - i = d → l = (p.take i).map (· % 256) → Ev (fun k => impl_byteTexts.l0 k l p (p.length : Int) (i : Int)) (strOfNums (p.map (· % 256))) := by
  induction d with
  | zero =>
    intro l i hi hd hl
    obtain rfl : i = p.length := by omega
    rw [List.take_length] at hl
    subst hl
    exact Ev.last (fun k => by simp only [impl_byteTexts.l0]; rw [if_neg (by omega)])
  | succ d ih =>
    intro l i hi hd hl
    have hlen : l.length = i := by rw [hl]; simp; omega
    refine Ev.step (fun k => ?_) (ih (l ++ [rd p (i : Int) % 256]) (i + 1) (by omega) (by omega) ?_)
    · simp only [impl_byteTexts.l0]
      rw [if_pos (by omega), if_pos (by omega), if_pos (by omega), if_pos (by omega), w64 (x := (i : Int) + 1) (by omega) (by omega)]
      rfl
    · have hr : rd p (i : Int) = p[i] := by
        unfold rd
        rw [Int.toNat_natCast, List.getD_eq_getElem?_getD, List.getElem?_eq_getElem (by omega)]
        rfl
      rw [List.take_succ_eq_append_getElem (by omega), List.map_append, ← hl, hr]
      rfl
theorem bytetexts_ev (p : List Int) (hp : p.length ≤ 1048576) : Ev (fun k => impl_byteTexts.f k p) (strOfNums (p.map (· % 256))) :=
  bytetexts_loop p hp p.length [] 0 (by omega) (by omega) (by simp)
theorem strOfNums_append (xs ys : List Int) : strOfNums xs ++ strOfNums ys = strOfNums (xs ++ ys) := by
  apply toList_inj
  rw [Go.Lib.toList_data, Go.Lib.toList_data, ByteArray.data_append, Array.toList_append, strOfNums_data, strOfNums_data, strOfNums_data, List.map_append]

/-- The bytes of a number as VarText writes them. -/
def venc (n : Nat) : List Int := if n > 127 then (((n % 128 + 128 : Nat)) : Int) :: venc (n / 128) else [(n : Int)]
termination_by n
decreasing_by omega
theorem venc_length (n : Nat) : (venc n).length ≤ n + 1 := by
  induction n using Nat.strongRecOn with
  | _ n ih =>
    unfold venc
    by_cases h : n > 127
    · rw [if_pos h]
      have := ih (n / 128) (by omega)
      simp only [List.length_cons]
      omega
    · rw [if_neg h]
      simp
theorem venc_range (n : Nat) : ∀ x ∈ venc n, 0 ≤ x ∧ x ≤ 255 := by
  induction n using Nat.strongRecOn with
  | _ n ih =>
    intro x hx
    unfold venc at hx
    by_cases h : n > 127
    · rw [if_pos h] at hx
      rcases List.mem_cons.1 hx with rfl | hx
      · omega
      · exact ih (n / 128) (by omega) x hx
    · rw [if_neg h] at hx
      rw [List.mem_singleton.1 hx]
      omega

theorem vartext_loop (d : Nat) : ∀ (k n : Nat) (l : List Int), n < d → d ≤ k → l.length + n ≤ 1000000000 → impl_VarText.l0 k (n : Int) l = some (strOfNums (l ++ venc n), true) := by
  induction d with
  | zero => intro k n l hd; omega
  | succ d ih =>
    intro k n l hd hk hl
    obtain ⟨k, rfl⟩ : ∃ m, k = m + 1 := ⟨k - 1, by omega⟩
    simp only [impl_VarText.l0]
    unfold venc
    by_cases hb : n > 127
    · have e1 : Int.tdiv (n : Int) 128 = ((n / 128 : Nat) : Int) := by rw [tdiv_nn (by omega)]; omega
      have e3 : (wrap64 (Int.tmod (n : Int) 128 + 128)) % 256 = ((n % 128 + 128 : Nat) : Int) := by
        rw [tmod_nn (by omega), w64 (by omega) (by omega)]
        omega
      rw [if_pos (show (n : Int) > 127 by omega), if_pos (by omega), e1, w64 (by omega) (by omega), e3, ih k (n / 128) _ (by omega) (by omega) (by simp; omega), if_pos hb]
      simp
    · rw [if_neg (show ¬ (n : Int) > 127 by omega), if_pos (by omega), if_neg hb, show (n : Int) % 256 = n by omega]
theorem vartext_ev (n : Nat) (h : n ≤ 1000000000) : Ev (fun k => impl_VarText.f k (n : Int)) (strOfNums (venc n), true) :=
  Ev.at_ (n + 1) (fun k hk => by
    unfold impl_VarText.f
    rw [within_eq, decide_eq_true (by omega)]
    simp only [Option.bind_some, if_true]
    rw [vartext_loop (n + 1) k n [] (by omega) hk (by simp; omega)]
    simp)
theorem shorttext_ev (s : ByteArray) (h : s.size ≤ 20000) : Ev (fun k => impl_ShortText.f k s) (strOfNums (venc s.size) ++ s, true) := by
  unfold impl_ShortText.f
  simp only [if_neg (show ¬ (s.size : Int) > 20000 by omega)]
  have hv := venc_length s.size
  refine Ev.bind (vartext_ev s.size (by omega)) (Ev.now' fun _ => ?_)
  simp only [strOfNums_size]
  rw [if_pos (by omega)]

theorem l01var_loop (d : Nat) : ∀ (k n : Nat) (l : List Int), n < d → d ≤ k → l.length + n ≤ 1000000000 → spec_l01Var.l0 k (n : Int) l = some (strOfNums (l ++ venc n)) := by
  induction d with
  | zero => intro k n l hd; omega
  | succ d ih =>
    intro k n l hd hk hl
    obtain ⟨k, rfl⟩ : ∃ m, k = m + 1 := ⟨k - 1, by omega⟩
    simp only [spec_l01Var.l0]
    unfold venc
    by_cases hb : n > 127
    · have e1 : Int.tdiv (n : Int) 128 = ((n / 128 : Nat) : Int) := by rw [tdiv_nn (by omega)]; omega
      have e3 : (wrap64 (Int.tmod (n : Int) 128 + 128)) % 256 = ((n % 128 + 128 : Nat) : Int) := by
        rw [tmod_nn (by omega), w64 (by omega) (by omega)]
        omega
      rw [if_pos (show (n : Int) > 127 by omega), if_pos (by omega), e1, w64 (by omega) (by omega), e3, ih k (n / 128) _ (by omega) (by omega) (by simp; omega), if_pos hb]
      simp
    · rw [if_neg (show ¬ (n : Int) > 127 by omega), if_pos (by omega), if_neg hb, show (n : Int) % 256 = n by omega]
theorem l01var_ev (n : Nat) (h : n ≤ 1000000000) : Ev (fun k => spec_l01Var.f k (n : Int)) (strOfNums (venc n)) :=
  Ev.at_ (n + 1) (fun k hk => by
    unfold spec_l01Var.f
    rw [l01var_loop (n + 1) k n [] (by omega) hk (by simp; omega)]
    simp)

theorem app_assoc (a b c : ByteArray) : a ++ b ++ c = a ++ (b ++ c) := by
  apply toList_inj
  simp only [Go.Lib.toList_data, ByteArray.data_append, Array.toList_append, List.append_assoc]
/-- A slot's bytes in a block's text. -/
def slotEnc (x : S69) : ByteArray := strOfNums [x.f1 % 256] ++ (strOfNums (venc x.f0.size) ++ x.f0)
theorem slotEnc_size (x : S69) (h : x.f0.size ≤ 6) : (slotEnc x).size ≤ 14 := by
  unfold slotEnc
  have := venc_length x.f0.size
  rw [ByteArray.size_append, ByteArray.size_append, strOfNums_size, strOfNums_size]
  simp only [List.length_singleton]
  omega
/-- What both BlockTexts answer. -/
noncomputable def BT (b : Bool) (l : List S69) (t : ByteArray) : ByteArray × Bool := if dB (BOk b l t) = true then (if b = true then (l.foldl (fun a x => a ++ slotEnc x) ⟨#[100]⟩, true) else ((⟨#[116]⟩ : ByteArray) ++ t, true)) else (⟨#[]⟩, false)
theorem size_of_toList {s : ByteArray} (h : s.toList = ([] : List UInt8)) : s.size = 0 := by
  rw [Go.Lib.toList_data] at h
  have h2 : s.data.toList.length = 0 := by rw [h]; rfl
  rw [Array.length_toList] at h2
  exact h2
theorem BOk_small {b : Bool} {l : List S69} {t : ByteArray} (hn : ∀ x ∈ l, x.f0.size ≤ 140737488351232) (hb : b = true) (h : BOk b l t) : l.length = 4 ∧ ∀ x ∈ l, x.f0.size ≤ 6 := by
  unfold BOk at h
  rw [if_pos hb] at h
  refine ⟨h.2.1, fun x hx => ?_⟩
  obtain ⟨j, hj, e⟩ := List.mem_iff_getElem.1 hx
  have e2 : l.getD j z69 = x := by rw [List.getD_eq_getElem?_getD, List.getElem?_eq_getElem hj, ← e]; rfl
  have := h.1 j hj
  unfold SOk at this
  rw [e2] at this
  rcases this with h1 | h1
  · have := size_of_toList h1.1
    omega
  · exact (name_size _ (hn x hx) h1.1).2
theorem drop_getD (l : List S69) (i : Nat) (h : i < l.length) : l.drop i = l.getD i z69 :: l.drop (i + 1) := by
  rw [List.drop_eq_getElem_cons h, List.getD_eq_getElem?_getD, List.getElem?_eq_getElem h]
  rfl
theorem spec_blocktext_loop (b : Bool) (l : List S69) (t : ByteArray) (hl : l.length = 4) (hs : ∀ x ∈ l, x.f0.size ≤ 6) (d : Nat) : ∀ (i : Nat) (a : ByteArray), i ≤ 4 → 4 - i = d → a.size + 20 * d ≤ 1000 → Ev (fun k => spec_BlockText.l0 k a i b l t) ((l.drop i).foldl (fun a x => a ++ slotEnc x) a, true) := by
  induction d with
  | zero =>
    intro i a h4 hd ha
    rw [List.drop_of_length_le (by omega)]
    exact Ev.last (fun k => by simp only [spec_BlockText.l0]; rw [if_neg (by omega)]; rfl)
  | succ d ih =>
    intro i a h4 hd ha
    have hw : wrap64 ((i : Int) + 1) = ((i + 1 : Nat) : Int) := by rw [w64 (by omega) (by omega)]; omega
    have hx := hs _ (getD_mem (xs := l) (i := i) z69 (by omega))
    have hsz := slotEnc_size _ hx
    have hv := venc_length (l.getD i z69).f0.size
    have hst := ih (i + 1) (a ++ slotEnc (l.getD i z69)) (by omega) (by omega) (by rw [ByteArray.size_append]; omega)
    rw [drop_getD l i (by omega), List.foldl_cons]
    have key : ∀ k, spec_BlockText.l0 (k + 1) a i b l t = (spec_l01Var.f k ((l.getD i z69).f0.size : Int)).bind (fun v => if (a ++ strOfNums [(l.getD i z69).f1 % 256]).size + v.size ≤ 9223372036854775807 then (if ((a ++ strOfNums [(l.getD i z69).f1 % 256]) ++ v).size + (l.getD i z69).f0.size ≤ 9223372036854775807 then spec_BlockText.l0 k (((a ++ strOfNums [(l.getD i z69).f1 % 256]) ++ v) ++ (l.getD i z69).f0) ((i + 1 : Nat) : Int) b l t else none) else none) := fun k => by
      simp only [spec_BlockText.l0, Option.bind_some]
      rw [if_pos (by omega), if_pos (by omega), if_pos (by omega), if_pos (by rw [strOfNums_size]; simp only [List.length_singleton]; omega), hw]
      rfl
    refine Ev.step key (Ev.bind (l01var_ev _ (by omega)) (Ev.congr (fun k => ?_) hst))
    rw [if_pos (by rw [ByteArray.size_append, strOfNums_size, strOfNums_size]; simp only [List.length_singleton]; omega), if_pos (by rw [ByteArray.size_append, ByteArray.size_append, strOfNums_size, strOfNums_size]; simp only [List.length_singleton]; omega)]
    have e : a ++ strOfNums [(l.getD i z69).f1 % 256] ++ strOfNums (venc (l.getD i z69).f0.size) ++ (l.getD i z69).f0 = a ++ slotEnc (l.getD i z69) := by
      unfold slotEnc
      rw [app_assoc, app_assoc]
    rw [e]
theorem spec_blocktext (b : Bool) (l : List S69) (t : ByteArray) (hn : ∀ x ∈ l, x.f0.size ≤ 140737488351232) : Ev (fun k => spec_BlockText.f k b l t) (BT b l t) := by
  unfold spec_BlockText.f BT
  refine Ev.bind (spec_blockok b l t hn) ?_
  by_cases h : dB (BOk b l t) = true
  · simp only [if_pos h]
    by_cases hb : b = true
    · simp only [if_pos hb]
      obtain ⟨h4, hs⟩ := BOk_small hn hb (of_dB h)
      have := spec_blocktext_loop b l t h4 hs 4 0 ⟨#[100]⟩ (by omega) (by omega) (by decide)
      rw [List.drop_zero] at this
      exact this
    · simp only [if_neg hb]
      have h16 := of_dB h
      unfold BOk at h16
      rw [if_neg hb] at h16
      exact Ev.now' fun _ => by rw [if_pos (by omega)]
  · simp only [if_neg h]
    exact Ev.now _
theorem impl_blocktext_loop (l : List S69) (hl : l.length = 4) (hs : ∀ x ∈ l, x.f0.size ≤ 6) (d : Nat) : ∀ (i : Nat) (a : ByteArray), i ≤ 4 → 4 - i = d → a.size + 20 * d ≤ 1000 → Ev (fun k => impl_BlockText.l0 k a l (l.length : Int) i) ((l.drop i).foldl (fun a x => a ++ slotEnc x) a, true) := by
  induction d with
  | zero =>
    intro i a h4 hd ha
    rw [List.drop_of_length_le (by omega)]
    exact Ev.last (fun k => by simp only [impl_BlockText.l0]; rw [if_neg (by omega)]; rfl)
  | succ d ih =>
    intro i a h4 hd ha
    have hw : wrap64 ((i : Int) + 1) = ((i + 1 : Nat) : Int) := by rw [w64 (by omega) (by omega)]; omega
    have hx := hs _ (getD_mem (xs := l) (i := i) z69 (by omega))
    have hsz := slotEnc_size _ hx
    have hv := venc_length (l.getD i z69).f0.size
    have hst := ih (i + 1) (a ++ slotEnc (l.getD i z69)) (by omega) (by omega) (by rw [ByteArray.size_append]; omega)
    rw [drop_getD l i (by omega), List.foldl_cons]
    have key : ∀ k, impl_BlockText.l0 (k + 1) a l (l.length : Int) i = (impl_ShortText.f k (l.getD i z69).f0).bind (fun q => (impl_byteTexts.f k [(l.getD i z69).f1]).bind (fun v => if v.size + q.1.size ≤ 9223372036854775807 then (if a.size + (v ++ q.1).size ≤ 9223372036854775807 then impl_BlockText.l0 k (a ++ (v ++ q.1)) l (l.length : Int) ((i + 1 : Nat) : Int) else none) else none)) := fun k => by
      simp only [impl_BlockText.l0]
      rw [if_pos (by omega), if_pos (by omega), if_pos (by omega), hw]
      rfl
    refine Ev.step key (Ev.bind (shorttext_ev _ (by omega)) (Ev.bind (bytetexts_ev [(l.getD i z69).f1] (by simp)) (Ev.congr (fun k => ?_) hst)))
    have e : strOfNums ([(l.getD i z69).f1].map (· % 256)) ++ (strOfNums (venc (l.getD i z69).f0.size) ++ (l.getD i z69).f0) = slotEnc (l.getD i z69) := rfl
    simp only [e]
    rw [if_pos (by rw [ByteArray.size_append, strOfNums_size, strOfNums_size]; simp only [List.length_map, List.length_singleton]; omega), if_pos (by omega)]
theorem impl_blocktext (b : Bool) (l : List S69) (t : ByteArray) (hl : l.length ≤ 1048576) (hn : ∀ x ∈ l, x.f0.size ≤ 140737488351232) : Ev (fun k => impl_BlockText.f k b l t) (BT b l t) := by
  unfold impl_BlockText.f BT
  refine Ev.bind (impl_blockok b l t hl hn) ?_
  by_cases h : dB (BOk b l t) = true
  · simp only [if_pos h]
    by_cases hb : b = true
    · simp only [if_pos hb]
      obtain ⟨h4, hs⟩ := BOk_small hn hb (of_dB h)
      have := impl_blocktext_loop l h4 hs 4 0 ⟨#[100]⟩ (by omega) (by omega) (by decide)
      rw [List.drop_zero] at this
      exact this
    · simp only [if_neg hb]
      have h16 := of_dB h
      unfold BOk at h16
      rw [if_neg hb] at h16
      exact Ev.now' fun _ => by rw [if_pos (by omega)]
  · simp only [if_neg h]
    exact Ev.now _

theorem size_extract (s : ByteArray) (i j : Nat) (hj : j ≤ s.size) : (s.extract i j).size = j - i := by
  rw [ByteArray.size_extract]
  omega
theorem split_at (s : ByteArray) (n : Nat) (h : n ≤ s.size) : s.extract 0 n ++ s.extract n s.size = s := by
  apply toList_inj
  rw [Go.Lib.toList_data, Go.Lib.toList_data, ByteArray.data_append, Array.toList_append, Go.Lib.extract_data, Go.Lib.extract_data]
  have hl : s.data.toList.length = s.size := by rw [Array.length_toList]; rfl
  rw [List.drop_zero, Nat.sub_zero, List.take_of_length_le (l := List.drop n s.data.toList) (by rw [List.length_drop, hl]; omega), List.take_append_drop]

/-- The number that bytes of this form hold. -/
def vval : List Int → Nat
  | [] => 0
  | b :: r => (b % 128).toNat + 128 * vval r
theorem vval_snoc (l : List Int) (c : Int) : vval (l ++ [c]) = vval l + (c % 128).toNat * 128 ^ l.length := by
  induction l with
  | nil => simp [vval]
  | cons b r ih =>
    simp only [List.cons_append, vval, ih, List.length_cons, Nat.pow_succ]
    rw [Nat.mul_add, Nat.add_assoc]
    congr 2
    rw [Nat.mul_comm 128, Nat.mul_assoc]
theorem venc_last (n : Nat) : ∃ l c, venc n = l ++ [c] ∧ c < 128 ∧ (l = [] ∨ c ≠ 0) := by
  induction n using Nat.strongRecOn with
  | _ n ih =>
    unfold venc
    by_cases h : n > 127
    · rw [if_pos h]
      obtain ⟨l, c, e, hc, hl⟩ := ih (n / 128) (by omega)
      refine ⟨_ :: l, c, by rw [e]; rfl, hc, .inr ?_⟩
      rcases hl with rfl | hl
      · intro h0
        subst h0
        have : venc (n / 128) = [0] := by rw [e]; rfl
        unfold venc at this
        by_cases h2 : n / 128 > 127
        · rw [if_pos h2] at this
          injection this with a b
          omega
        · rw [if_neg h2] at this
          injection this with a b
          omega
      · exact hl
    · rw [if_neg h]
      exact ⟨[], _, rfl, by omega, .inl rfl⟩
theorem vval_venc (l : List Int) (c : Int) (hl : ∀ x ∈ l, 128 ≤ x ∧ x ≤ 255) (h0 : 0 ≤ c) (h1 : c < 128) (h : l = [] ∨ c ≠ 0) : venc (vval (l ++ [c])) = l ++ [c] := by
  induction l with
  | nil =>
    simp only [List.nil_append, vval]
    unfold venc
    rw [if_neg (by omega), show c % 128 = c by omega]
    simp
    omega
  | cons b r ih =>
    have hb := hl b List.mem_cons_self
    have hpos : 1 ≤ vval (r ++ [c]) := by
      rw [vval_snoc]
      have hc : 1 ≤ (c % 128).toNat := by
        rcases h with h | h
        · cases h
        · omega
      have hp : 0 < 128 ^ r.length := Nat.pow_pos (by decide)
      have := Nat.mul_le_mul hc hp
      omega
    have ihr := ih (fun x hx => hl x (List.mem_cons_of_mem _ hx)) (.inr (by rcases h with h | h; cases h; exact h))
    simp only [List.cons_append, vval]
    unfold venc
    rw [if_pos (by omega), show ((b % 128).toNat + 128 * vval (r ++ [c])) / 128 = vval (r ++ [c]) by omega, ihr, show ((b % 128).toNat + 128 * vval (r ++ [c])) % 128 = (b % 128).toNat by omega]
    congr 1
    omega
theorem venc_iff (l : List Int) (c : Int) (hl : ∀ x ∈ l, 128 ≤ x ∧ x ≤ 255) (h0 : 0 ≤ c) (h1 : c < 128) : venc (vval (l ++ [c])) = l ++ [c] ↔ (l = [] ∨ c ≠ 0) := by
  constructor
  · intro h
    obtain ⟨l', c', e, _, hc⟩ := venc_last (vval (l ++ [c]))
    rw [e] at h
    obtain ⟨rfl, h2⟩ := List.append_inj' h rfl
    injection h2 with h2
    rw [← h2]
    exact hc
  · exact vval_venc l c hl h0 h1
theorem vval_lt (l : List Int) : vval l < 128 ^ l.length := by
  induction l with
  | nil => simp [vval]
  | cons b r ih =>
    simp only [vval, List.length_cons, Nat.pow_succ]
    omega
/-- m bytes from a on. -/
def bs (s : ByteArray) (a : Nat) (m : Nat) : List Int := (List.range m).map fun t => bt s ((a + t : Nat) : Int)
theorem bs_length (s : ByteArray) (a m : Nat) : (bs s a m).length = m := by simp [bs]
theorem bs_snoc (s : ByteArray) (a m : Nat) : bs s a (m + 1) = bs s a m ++ [bt s ((a + m : Nat) : Int)] := by
  simp [bs, List.range_succ]
theorem bt_nat (s : ByteArray) (i : Nat) (h : i < s.size) : s.data.toList[i]? = some (UInt8.ofNat (bt s ((i : Nat) : Int)).toNat) := by
  have hl : i < s.data.toList.length := by rw [Array.length_toList]; exact h
  rw [List.getElem?_eq_getElem hl]
  congr 1
  unfold bt
  rw [dif_pos (by simpa using h)]
  simp only [Int.toNat_natCast, Array.getElem_toList]
  exact (UInt8.ofNat_toNat (x := s.data[i])).symm
theorem extract_bs (s : ByteArray) (a m : Nat) (h : a + m ≤ s.size) : (s.extract a (a + m)).data.toList = (bs s a m).map fun n => UInt8.ofNat n.toNat := by
  induction m with
  | zero => rw [Go.Lib.extract_data]; simp [bs]
  | succ m ih =>
    have ih := ih (by omega)
    rw [Go.Lib.extract_data] at ih ⊢
    rw [show a + m - a = m by omega] at ih
    rw [show a + (m + 1) - a = m + 1 by omega, List.take_add_one, ih, bs_snoc, List.map_append, List.getElem?_drop, bt_nat s (a + m) (by omega)]
    rfl
theorem strOfNums_inj (l l' : List Int) (h : ∀ x ∈ l, 0 ≤ x ∧ x ≤ 255) (h' : ∀ x ∈ l', 0 ≤ x ∧ x ≤ 255) (e : (l.map fun n => UInt8.ofNat n.toNat) = (l'.map fun n => UInt8.ofNat n.toNat)) : l = l' := by
  induction l generalizing l' with
  | nil =>
    cases l' with
    | nil => rfl
    | cons _ _ => simp at e
  | cons x r ih =>
    cases l' with
    | nil => simp at e
    | cons y r' =>
      simp only [List.map_cons, List.cons.injEq] at e
      have hx := h x List.mem_cons_self
      have hy := h' y List.mem_cons_self
      have e1 := congrArg UInt8.toNat e.1
      rw [UInt8.toNat_ofNat', UInt8.toNat_ofNat', Nat.mod_eq_of_lt (by omega), Nat.mod_eq_of_lt (by omega)] at e1
      have exy : x = y := by omega
      rw [exy, ih r' (fun z hz => h z (List.mem_cons_of_mem _ hz)) (fun z hz => h' z (List.mem_cons_of_mem _ hz)) e.2]
theorem bs_range (s : ByteArray) (a m : Nat) : ∀ x ∈ bs s a m, 0 ≤ x ∧ x ≤ 255 := by
  intro x hx
  obtain ⟨t, _, rfl⟩ := List.mem_map.1 hx
  exact bt_range s _
theorem venc_is (s : ByteArray) (a m n : Nat) (h : a + m ≤ s.size) : (strOfNums (venc n)).toList = (s.extract a (a + m)).toList ↔ venc n = bs s a m := by
  rw [Go.Lib.toList_data, Go.Lib.toList_data, extract_bs s a m h, strOfNums_data]
  constructor
  · exact strOfNums_inj _ _ (venc_range n) (bs_range s a m)
  · intro e
    rw [e]
theorem pow_le4 (j : Nat) (h : j ≤ 4) : (128 : Nat) ^ j ≤ 268435456 ∧ 1 ≤ (128 : Nat) ^ j := by
  obtain rfl | rfl | rfl | rfl | rfl : j = 0 ∨ j = 1 ∨ j = 2 ∨ j = 3 ∨ j = 4 := by omega
  all_goals decide
theorem mul_bound {x p : Nat} (hx : x ≤ 127) (hp : p ≤ 268435456) : x * p ≤ 34091302912 := by
  have := Nat.mul_le_mul hx hp
  omega
theorem shl_eq (x : Int) (j : Nat) (h0 : 0 ≤ x) (h1 : x ≤ 127) (hj : j ≤ 4) : shl .i64 x (7 * (j : Int)) = ((x.toNat * 128 ^ j : Nat) : Int) := by
  have hp := pow_le4 j hj
  have hb := mul_bound (x := x.toNat) (p := 128 ^ j) (by omega) hp.1
  have e : min (7 * (j : Int)).toNat IntKind.i64.bits = 7 * j := by
    have : IntKind.i64.bits = 64 := rfl
    omega
  unfold shl
  rw [e, Nat.mul_comm 7 j, show (2 : Int) ^ (j * 7) = ((128 ^ j : Nat) : Int) by
    rw [Nat.mul_comm, Int.pow_mul]; norm_cast]
  have ex : x * ((128 ^ j : Nat) : Int) = ((x.toNat * 128 ^ j : Nat) : Int) := by
    rw [Int.natCast_mul, Int.toNat_of_nonneg h0]
  rw [ex]
  exact (IntWalk.i64_in _ (by omega))
theorem spec_n (v m : Nat) (c p : Int) (hc0 : 0 ≤ c) (hc1 : c ≤ 255) (hm : c % 128 * p = (m : Int)) (hb : m ≤ 34091302912) (hv : v ≤ 268435456) : wrap64 ((v : Int) + wrap64 (Int.tmod (wrap64 c) 128 * p)) = ((v + m : Nat) : Int) := by
  rw [w64 (x := c) (by omega) (by omega), tmod_nn hc0, hm, w64 (x := (m : Int)) (by omega) (by omega), w64 (by omega) (by omega)]
  omega
theorem impl_n (v m : Nat) (c q : Int) (hc0 : 0 ≤ c) (hc1 : c ≤ 255) (hm : shl .i64 (c % 128) q = (m : Int)) (hb : m ≤ 34091302912) (hv : v ≤ 268435456) : wrap64 ((v : Int) + shl .i64 (Int.tmod (wrap64 c) 128) q) = ((v + m : Nat) : Int) := by
  rw [w64 (x := c) (by omega) (by omega), tmod_nn hc0, hm, w64 (by omega) (by omega)]
  omega
section
variable {s : ByteArray} {a j v v' k : Nat} {c p : Int}
theorem spec_into (hs : s.size ≤ 140737488351232) (hj : j ≤ 5) (hin : a + j < s.size) : spec_ReadVar.l0 (k + 1) s (a : Int) (v : Int) p ((a + j : Nat) : Int) = spec_ReadVar.j1 k s (a : Int) (v : Int) p ((a + j : Nat) : Int) (decide (j < 5)) := by
  simp only [spec_ReadVar.l0]
  rw [if_pos (by omega), w64 (x := (a : Int) + 5) (by omega) (by omega)]
  congr 1
  rw [decide_eq_decide]
  omega
theorem spec_out (hs : s.size ≤ 140737488351232) (hin : ¬ a + j < s.size) : spec_ReadVar.l0 (k + 1) s (a : Int) (v : Int) p ((a + j : Nat) : Int) = spec_ReadVar.j1 k s (a : Int) (v : Int) p ((a + j : Nat) : Int) false := by
  simp only [spec_ReadVar.l0]
  rw [if_neg (by omega)]
theorem spec_fail {x1 x7 x8 x9 : Int} : spec_ReadVar.j1 (k + 1) s x1 x7 x8 x9 false = some (0, 0, false) := by
  simp only [spec_ReadVar.j1]
  rfl
theorem impl_fail {x1 x7 x8 : Int} : impl_ReadVar.j1 (k + 1) s x1 x7 x8 false = some (0, 0, false) := by
  simp only [impl_ReadVar.j1]
  rfl
theorem impl_into (hs : s.size ≤ 140737488351232) (ha : a ≤ s.size) (hj : j < 5) : impl_ReadVar.l0 (k + 1) s (a : Int) (v : Int) (j : Int) = impl_ReadVar.j1 k s (a : Int) (v : Int) (j : Int) (decide (a + j < s.size)) := by
  simp only [impl_ReadVar.l0]
  rw [if_pos (by omega), w64 (x := (a : Int) + (j : Int)) (by omega) (by omega)]
  congr 1
  rw [decide_eq_decide]
  omega
theorem impl_out : impl_ReadVar.l0 (k + 1) s (a : Int) (v : Int) ((5 : Nat) : Int) = impl_ReadVar.j1 k s (a : Int) (v : Int) ((5 : Nat) : Int) false := by
  simp only [impl_ReadVar.l0]
  rw [if_neg (by omega)]
theorem spec_go (hs : s.size ≤ 140737488351232) (hin : a + j < s.size) (hcc : bt s ((a + j : Nat) : Int) = c) (hn : wrap64 ((v : Int) + wrap64 (Int.tmod (wrap64 c) 128 * p)) = (v' : Int)) (hbig : ¬ c < 128) : spec_ReadVar.j1 (k + 1) s (a : Int) (v : Int) p ((a + j : Nat) : Int) true = spec_ReadVar.l0 k s (a : Int) (v' : Int) (wrap64 (p * 128)) ((a + (j + 1) : Nat) : Int) := by
  have hn1 : wrap64 (((a + j : Nat) : Int) + 1) = ((a + (j + 1) : Nat) : Int) := by rw [w64 (by omega) (by omega)]; omega
  simp only [spec_ReadVar.j1, hcc, hn, hn1]
  rw [if_pos trivial, if_pos (by omega), if_pos (by omega), if_neg hbig]
theorem spec_max (hin : a + j < s.size) (hcc : bt s ((a + j : Nat) : Int) = c) (hn : wrap64 ((v : Int) + wrap64 (Int.tmod (wrap64 c) 128 * p)) = (v' : Int)) (hbig : c < 128) (hmx : v' > 1000000000) : spec_ReadVar.j1 (k + 1) s (a : Int) (v : Int) p ((a + j : Nat) : Int) true = some (0, 0, false) := by
  simp only [spec_ReadVar.j1, hcc, hn]
  rw [if_pos trivial, if_pos (by omega), if_pos (by omega), if_pos hbig, if_pos (by omega)]
theorem spec_end (hs : s.size ≤ 140737488351232) (hin : a + j < s.size) (hcc : bt s ((a + j : Nat) : Int) = c) (hn : wrap64 ((v : Int) + wrap64 (Int.tmod (wrap64 c) 128 * p)) = (v' : Int)) (hbig : c < 128) (hmx : ¬ v' > 1000000000) : spec_ReadVar.j1 (k + 1) s (a : Int) (v : Int) p ((a + j : Nat) : Int) true = (spec_l01Var.f k (v' : Int)).bind fun t => if t.toList = (s.extract a (a + (j + 1))).toList then some ((v' : Int), ((a + j + 1 : Nat) : Int), true) else some ((0 : Int), (0 : Int), false) := by
  have hn1 : wrap64 (((a + j : Nat) : Int) + 1) = ((a + j + 1 : Nat) : Int) := by rw [w64 (by omega) (by omega)]; omega
  simp only [spec_ReadVar.j1, hcc, hn, hn1]
  rw [if_pos trivial, if_pos (by omega), if_pos (by omega), if_pos hbig, if_neg (by omega)]
  rw [show ((a : Int)).toNat = a from Int.toNat_natCast a, show (((a + j + 1 : Nat) : Int)).toNat = a + (j + 1) from Int.toNat_natCast _]
  congr 1
  funext t
  rw [if_pos (by omega), if_pos (by omega), if_pos (by omega)]
theorem impl_go (hs : s.size ≤ 140737488351232) (hin : a + j < s.size) (hj : j ≤ 4) (hcc : bt s ((a + j : Nat) : Int) = c) (hc : 0 ≤ c ∧ c ≤ 255) (hn : wrap64 ((v : Int) + shl .i64 (Int.tmod (wrap64 c) 128) (7 * (j : Int))) = (v' : Int)) (hbig : ¬ c < 128) : impl_ReadVar.j1 (k + 1) s (a : Int) (v : Int) (j : Int) true = impl_ReadVar.l0 k s (a : Int) (v' : Int) ((j + 1 : Nat) : Int) := by
  have haj : wrap64 ((a : Int) + (j : Int)) = ((a + j : Nat) : Int) := by rw [w64 (by omega) (by omega)]; omega
  have h7 : wrap64 (7 * (j : Int)) = 7 * (j : Int) := w64 (by omega) (by omega)
  have hj1 : wrap64 ((j : Int) + 1) = ((j + 1 : Nat) : Int) := by rw [w64 (by omega) (by omega)]; omega
  have hw : wrap64 c = c := w64 (by omega) (by omega)
  simp only [impl_ReadVar.j1, haj, h7, hcc, hn, hj1, hw]
  simp only [hw] at hn
  rw [if_pos trivial, if_pos (by omega), if_pos (by omega), if_pos (by omega), if_pos (show c > 127 by omega), hn]
theorem impl_end (hs : s.size ≤ 140737488351232) (hin : a + j < s.size) (hj : j ≤ 4) (hcc : bt s ((a + j : Nat) : Int) = c) (hc : 0 ≤ c ∧ c ≤ 255) (hn : wrap64 ((v : Int) + shl .i64 (Int.tmod (wrap64 c) 128) (7 * (j : Int))) = (v' : Int)) (hbig : c < 128) : impl_ReadVar.j1 (k + 1) s (a : Int) (v : Int) (j : Int) true = if (0 < j ∧ c = 0) ∨ v' > 1000000000 then some (0, 0, false) else some ((v' : Int), ((a + j + 1 : Nat) : Int), true) := by
  have haj : wrap64 ((a : Int) + (j : Int)) = ((a + j : Nat) : Int) := by rw [w64 (by omega) (by omega)]; omega
  have h7 : wrap64 (7 * (j : Int)) = 7 * (j : Int) := w64 (by omega) (by omega)
  have hn1 : wrap64 (((a + j : Nat) : Int) + 1) = ((a + j + 1 : Nat) : Int) := by rw [w64 (by omega) (by omega)]; omega
  have hw : wrap64 c = c := w64 (by omega) (by omega)
  simp only [impl_ReadVar.j1, haj, h7, hcc, hn1, hw]
  simp only [hw] at hn
  rw [if_pos trivial, if_pos (by omega), if_pos (by omega), if_pos (by omega), if_neg (show ¬ c > 127 by omega), hn]
  by_cases h1 : (v' : Int) > 1000000000
  · rw [if_pos (show (0 < j ∧ c = 0) ∨ v' > 1000000000 by omega), if_pos h1]
    split
    · split <;> rfl
    · rfl
  · rw [if_neg h1]
    by_cases h2 : (j : Int) > 0
    · rw [if_pos h2]
      by_cases h3 : c = 0
      · rw [if_pos h3, if_pos (show (0 < j ∧ c = 0) ∨ v' > 1000000000 by omega)]
      · rw [if_neg h3, if_neg (show ¬ ((0 < j ∧ c = 0) ∨ v' > 1000000000) by omega)]
    · rw [if_neg h2, if_neg (show ¬ ((0 < j ∧ c = 0) ∨ v' > 1000000000) by omega)]
end
/-- What both answer: a number and a place that lie within their limits, or nothing. -/
def RvOk (s : ByteArray) (r : Int × Int × Bool) : Prop := r.2.2 = true → 0 ≤ r.1 ∧ r.1 ≤ 1000000000 ∧ 0 ≤ r.2.1 ∧ r.2.1 ≤ s.size
theorem rv_no (s : ByteArray) : RvOk s (0, 0, false) := fun h => by cases h
theorem readvar_loop (s : ByteArray) (hs : s.size ≤ 140737488351232) (a : Nat) (ha : a ≤ s.size) (d : Nat) : ∀ j : Nat, j ≤ 5 → 5 - j = d → a + j ≤ s.size → (∀ x ∈ bs s a j, 128 ≤ x ∧ x ≤ 255) →
    ∃ r : Int × Int × Bool, Ev (fun k => spec_ReadVar.l0 k s (a : Int) (vval (bs s a j) : Int) ((128 ^ j : Nat) : Int) ((a + j : Nat) : Int)) r ∧ Ev (fun k => impl_ReadVar.l0 k s (a : Int) (vval (bs s a j) : Int) (j : Int)) r ∧ RvOk s r := by
  induction d with
  | zero =>
    intro j h5 hd hsz hb
    obtain rfl : j = 5 := by omega
    refine ⟨(0, 0, false), ?_, ?_, rv_no s⟩
    · refine Ev.step (f := fun k => spec_ReadVar.j1 k s (a : Int) (vval (bs s a 5) : Int) ((128 ^ 5 : Nat) : Int) ((a + 5 : Nat) : Int) false) (fun k => ?_) (Ev.last fun k => spec_fail)
      by_cases hin : a + 5 < s.size
      · exact spec_into hs (by omega) hin
      · exact spec_out hs hin
    · exact Ev.step (f := fun k => impl_ReadVar.j1 k s (a : Int) (vval (bs s a 5) : Int) ((5 : Nat) : Int) false) (fun k => impl_out) (Ev.last fun k => impl_fail)
  | succ d ih =>
    intro j h5 hd hsz hb
    have hj4 : j ≤ 4 := by omega
    by_cases hin : a + j < s.size
    · have hp := pow_le4 j hj4
      have hv := vval_lt (bs s a j)
      rw [bs_length] at hv
      obtain ⟨c, hcc⟩ : ∃ c, bt s ((a + j : Nat) : Int) = c := ⟨_, rfl⟩
      have hc := bt_range s ((a + j : Nat) : Int)
      rw [hcc] at hc
      have hmb := mul_bound (x := (c % 128).toNat) (p := 128 ^ j) (by omega) hp.1
      have hvb : vval (bs s a j) ≤ 268435456 := by omega
      have hn' : vval (bs s a (j + 1)) = vval (bs s a j) + (c % 128).toNat * 128 ^ j := by rw [bs_snoc, vval_snoc, bs_length, hcc]
      have hm1 : c % 128 * ((128 ^ j : Nat) : Int) = (((c % 128).toNat * 128 ^ j : Nat) : Int) := by
        rw [Int.natCast_mul, Int.toNat_of_nonneg (by omega)]
      have hspec := spec_n (vval (bs s a j)) _ c _ hc.1 hc.2 hm1 hmb hvb
      have himpl := impl_n (vval (bs s a j)) _ c _ hc.1 hc.2 (shl_eq (c % 128) j (by omega) (by omega) hj4) hmb hvb
      rw [← hn'] at hspec himpl
      have hpb : wrap64 (((128 ^ j : Nat) : Int) * 128) = ((128 ^ (j + 1) : Nat) : Int) := by
        rw [Nat.pow_succ, w64 (by omega) (by omega)]
        omega
      have spec0 : ∀ r, Ev (fun k => spec_ReadVar.j1 k s (a : Int) (vval (bs s a j) : Int) ((128 ^ j : Nat) : Int) ((a + j : Nat) : Int) true) r → Ev (fun k => spec_ReadVar.l0 k s (a : Int) (vval (bs s a j) : Int) ((128 ^ j : Nat) : Int) ((a + j : Nat) : Int)) r := fun r h =>
        Ev.step (fun k => by rw [spec_into hs h5 hin, decide_eq_true (by omega)]) h
      have impl0 : ∀ r, Ev (fun k => impl_ReadVar.j1 k s (a : Int) (vval (bs s a j) : Int) (j : Int) true) r → Ev (fun k => impl_ReadVar.l0 k s (a : Int) (vval (bs s a j) : Int) (j : Int)) r := fun r h =>
        Ev.step (fun k => by rw [impl_into hs ha (by omega), decide_eq_true hin]) h
      clear hmb hm1 hp hv hvb
      by_cases hbig : c < 128
      · by_cases hmx : vval (bs s a (j + 1)) > 1000000000
        · exact ⟨(0, 0, false), spec0 _ (Ev.last fun k => spec_max hin hcc hspec hbig hmx), impl0 _ (Ev.last fun k => by rw [impl_end hs hin hj4 hcc hc himpl hbig, if_pos (.inr hmx)]), rv_no s⟩
        · have hiff := venc_is s a (j + 1) (vval (bs s a (j + 1))) (by omega)
          have hiff2 : venc (vval (bs s a (j + 1))) = bs s a (j + 1) ↔ (bs s a j = [] ∨ c ≠ 0) := by
            rw [bs_snoc, hcc]
            exact venc_iff _ _ hb hc.1 hbig
          have hnil : bs s a j = [] ↔ ¬ 0 < j := by
            have hl := bs_length s a j
            constructor
            · intro e
              rw [e] at hl
              simp at hl
              omega
            · intro h
              obtain rfl : j = 0 := by omega
              rfl
          have hev := l01var_ev (vval (bs s a (j + 1))) (by omega)
          by_cases hok : bs s a j = [] ∨ c ≠ 0
          · refine ⟨((vval (bs s a (j + 1)) : Int), ((a + j + 1 : Nat) : Int), true), spec0 _ (Ev.step (fun k => spec_end hs hin hcc hspec hbig hmx) (Ev.bind hev (Ev.now' fun _ => by rw [if_pos (hiff.2 (hiff2.2 hok))]))), impl0 _ (Ev.last fun k => ?_), fun _ => ⟨by simp only; omega, by simp only; omega, by simp only; omega, by simp only; omega⟩⟩
            rw [impl_end hs hin hj4 hcc hc himpl hbig, if_neg]
            rintro (⟨h1, h2⟩ | h)
            · rcases hok with h | h
              · exact hnil.1 h h1
              · exact h h2
            · exact hmx h
          · refine ⟨(0, 0, false), spec0 _ (Ev.step (fun k => spec_end hs hin hcc hspec hbig hmx) (Ev.bind hev (Ev.now' fun _ => by rw [if_neg (fun h => hok (hiff2.1 (hiff.1 h)))]))), impl0 _ (Ev.last fun k => ?_), rv_no s⟩
            rw [impl_end hs hin hj4 hcc hc himpl hbig, if_pos]
            exact .inl ⟨Decidable.byContradiction fun h => hok (.inl (hnil.2 h)), Decidable.byContradiction fun h => hok (.inr h)⟩
      · obtain ⟨r, hr1, hr2, hr3⟩ := ih (j + 1) (by omega) (by omega) (by omega) (by
          rw [bs_snoc, hcc]
          intro x hx
          rcases List.mem_append.1 hx with hx | hx
          · exact hb x hx
          · rw [List.mem_singleton.1 hx]
            omega)
        exact ⟨r, spec0 _ (Ev.step (fun k => by rw [spec_go hs hin hcc hspec hbig, hpb]) hr1), impl0 _ (Ev.step (fun k => impl_go hs hin hj4 hcc hc himpl hbig) hr2), hr3⟩
    · refine ⟨(0, 0, false), ?_, ?_, rv_no s⟩
      · exact Ev.step (f := fun k => spec_ReadVar.j1 k s (a : Int) (vval (bs s a j) : Int) ((128 ^ j : Nat) : Int) ((a + j : Nat) : Int) false) (fun k => spec_out hs hin) (Ev.last fun k => spec_fail)
      · exact Ev.step (f := fun k => impl_ReadVar.j1 k s (a : Int) (vval (bs s a j) : Int) (j : Int) false) (fun k => by rw [impl_into hs ha (by omega), decide_eq_false hin]) (Ev.last fun k => impl_fail)
theorem readvar_ev (s : ByteArray) (hs : s.size ≤ 140737488351232) (a : Int) : ∃ r : Int × Int × Bool, Ev (fun k => spec_ReadVar.f k s a) r ∧ Ev (fun k => impl_ReadVar.f k s a) r ∧ RvOk s r := by
  by_cases h : 0 ≤ a ∧ a ≤ s.size
  · obtain ⟨n, rfl⟩ := Int.eq_ofNat_of_zero_le h.1
    obtain ⟨r, h1, h2, h3⟩ := readvar_loop s hs n (by omega) 5 0 (by omega) (by omega) (by omega) (by simp [bs])
    refine ⟨r, ?_, ?_, h3⟩
    · unfold spec_ReadVar.f
      simp only [in_eq, decide_eq_true h, Option.bind_some, if_true]
      exact h1
    · unfold impl_ReadVar.f
      simp only [within_eq, decide_eq_true h, Option.bind_some, if_true]
      exact h2
  · refine ⟨(0, 0, false), Ev.now' fun k => ?_, Ev.now' fun k => ?_, rv_no s⟩
    · unfold spec_ReadVar.f
      rw [in_eq, decide_eq_false h]
      rfl
    · unfold impl_ReadVar.f
      rw [within_eq, decide_eq_false h]
      rfl

theorem readshort_ev (s : ByteArray) (hs : s.size ≤ 140737488351232) (a : Int) : ∃ r : ByteArray × Int × Bool, Ev (fun k => spec_ReadShort.f k s a) r ∧ Ev (fun k => impl_ReadShort.f k s a) r ∧ (r.2.2 = true → r.1.size ≤ 20000 ∧ 0 ≤ r.2.1 ∧ r.2.1 ≤ s.size) := by
  obtain ⟨⟨n, next, ok⟩, h1, h2, h3⟩ := readvar_ev s hs a
  cases ok with
  | false =>
    refine ⟨(⟨#[]⟩, 0, false), ?_, ?_, fun h => by cases h⟩
    · unfold spec_ReadShort.f
      exact Ev.bind h1 (Ev.now' fun _ => rfl)
    · unfold impl_ReadShort.f
      exact Ev.bind h2 (Ev.now' fun _ => rfl)
  | true =>
    obtain ⟨n0, n1, x0, x1⟩ := h3 rfl
    simp only at n0 n1 x0 x1
    have hw : wrap64 ((s.size : Int) - next) = (s.size : Int) - next := w64 (by omega) (by omega)
    have hw2 : wrap64 (next + n) = next + n := w64 (by omega) (by omega)
    by_cases hbad : n > 20000 ∨ n > (s.size : Int) - next
    · refine ⟨(⟨#[]⟩, 0, false), ?_, ?_, fun h => by cases h⟩
      · unfold spec_ReadShort.f
        refine Ev.bind h1 (Ev.now' fun _ => ?_)
        simp only [hw]
        rw [if_pos trivial]
        by_cases h : n > 20000
        · rw [if_pos h]
        · rw [if_neg h, if_pos (by omega)]
      · unfold impl_ReadShort.f
        refine Ev.bind h2 (Ev.now' fun _ => ?_)
        simp only [hw]
        rw [if_pos trivial]
        by_cases h : n > 20000
        · rw [if_pos h]
        · rw [if_neg h, if_pos (by omega)]
    · refine ⟨(s.extract next.toNat (next + n).toNat, next + n, true), ?_, ?_, fun _ => ⟨?_, by simp only; omega, by simp only; omega⟩⟩
      · unfold spec_ReadShort.f
        refine Ev.bind h1 (Ev.now' fun _ => ?_)
        simp only [hw, hw2]
        rw [if_pos trivial, if_neg (by omega), if_neg (by omega), if_pos (by omega), if_pos (by omega), if_pos (by omega)]
      · unfold impl_ReadShort.f
        refine Ev.bind h2 (Ev.now' fun _ => ?_)
        simp only [hw, hw2]
        rw [if_pos trivial, if_neg (by omega), if_neg (by omega), if_pos (by omega), if_pos (by omega), if_pos (by omega)]
      · simp only
        rw [size_extract _ _ _ (by omega)]
        omega

theorem Ev.uniq {α : Type} {g : Nat → Option α} {r r' : α} (h : Ev g r) (h' : Ev g r') : r = r' := by
  obtain ⟨K, hK⟩ := h
  obtain ⟨K', hK'⟩ := h'
  have a := hK (max K K') (Nat.le_max_left _ _)
  rw [hK' (max K K') (Nat.le_max_right _ _)] at a
  exact (Option.some.inj a).symm

theorem readvar_out (s : ByteArray) (hs : s.size ≤ 140737488351232) (a : Int) (ha : ¬ (0 ≤ a ∧ a < s.size)) : Ev (fun k => impl_ReadVar.f k s a) (0, 0, false) := by
  unfold impl_ReadVar.f
  by_cases h : 0 ≤ a ∧ a ≤ (s.size : Int)
  · have e : a = s.size := by omega
    simp only [within_eq, Option.bind_some, decide_eq_true h, if_true]
    refine Ev.step (f := fun k => impl_ReadVar.j1 k s a 0 0 false) (fun k => ?_) (Ev.last fun k => impl_fail)
    simp only [impl_ReadVar.l0]
    rw [if_pos (by omega), decide_eq_false (by rw [w64 (by omega) (by omega)]; omega)]
  · exact Ev.now' fun k => by
      simp only [within_eq, Option.bind_some, decide_eq_false h]
      rfl
theorem readshort_in (s : ByteArray) (hs : s.size ≤ 140737488351232) (a : Int) : ∃ r : ByteArray × Int × Bool, Ev (fun k => spec_ReadShort.f k s a) r ∧ Ev (fun k => impl_ReadShort.f k s a) r ∧ (r.2.2 = true → r.1.size ≤ 20000 ∧ 0 ≤ r.2.1 ∧ r.2.1 ≤ s.size ∧ 0 ≤ a ∧ a < s.size) := by
  obtain ⟨r, h1, h2, h3⟩ := readshort_ev s hs a
  refine ⟨r, h1, h2, fun hr => ?_⟩
  by_cases ha : 0 ≤ a ∧ a < (s.size : Int)
  · obtain ⟨q1, q2, q3⟩ := h3 hr
    exact ⟨q1, q2, q3, ha⟩
  · have h4 : Ev (fun k => impl_ReadShort.f k s a) (⟨#[]⟩, 0, false) := by
      unfold impl_ReadShort.f
      exact Ev.bind (readvar_out s hs a ha) (Ev.now' fun _ => rfl)
    rw [Ev.uniq h2 h4] at hr
    simp at hr

/-- What no block answers. -/
def noB : Bool × List S69 × ByteArray × Bool := (false, [], ⟨#[]⟩, false)
/-- A read block, where its own bytes are the text. -/
noncomputable def fin (s : ByteArray) (b : Bool) (l : List S69) (t : ByteArray) : Bool × List S69 × ByteArray × Bool := if (BT b l t).2 = true then (if (BT b l t).1.toList = s.toList then (b, l, t, true) else noB) else noB
def RbOk (s : ByteArray) (R : Bool × List S69 × ByteArray × Bool) : Prop := R.2.1.length ≤ 4 ∧ (∀ x ∈ R.2.1, x.f0.size ≤ 20000) ∧ R.2.2.1.size ≤ s.size ∧ (R.2.2.2 = true → BT R.1 R.2.1 R.2.2.1 = (s, true))
theorem noB_ok (s : ByteArray) : RbOk s noB := ⟨by simp [noB], fun x hx => by simp [noB] at hx, Nat.zero_le s.size, fun h => by simp [noB] at h⟩
theorem fin_ok (s : ByteArray) (b : Bool) (l : List S69) (t : ByteArray) (hl : l.length ≤ 4) (hn : ∀ x ∈ l, x.f0.size ≤ 20000) (ht : t.size ≤ s.size) : RbOk s (fin s b l t) := by
  unfold fin
  by_cases h1 : (BT b l t).2 = true
  · rw [if_pos h1]
    by_cases h2 : (BT b l t).1.toList = s.toList
    · rw [if_pos h2]
      refine ⟨hl, hn, ht, fun _ => ?_⟩
      show BT b l t = (s, true)
      rw [← toList_inj h2, ← h1]
    · rw [if_neg h2]; exact noB_ok s
  · rw [if_neg h1]; exact noB_ok s
theorem set_rep (acc : List S69) (d : Nat) (v : S69) : (acc ++ List.replicate (d + 1) z69).set acc.length v = (acc ++ [v]) ++ List.replicate d z69 := by
  simp [List.set_append, List.replicate_succ]
theorem BT_short (acc : List S69) (t : ByteArray) (h : acc.length ≠ 4) : BT true acc t = (⟨#[]⟩, false) := by
  unfold BT
  rw [dB_false (fun hb => by unfold BOk at hb; rw [if_pos rfl] at hb; exact h hb.2.1)]
  rfl
theorem rb_loop (s : ByteArray) (hs : s.size ≤ 1048576) (d : Nat) : ∀ (acc : List S69) (p : Int), acc.length + d = 4 → 0 ≤ p → p ≤ s.size → (∀ x ∈ acc, x.f0.size ≤ 20000) → ∃ R, Ev (fun k => spec_ReadBlock.l0 k s p acc.length true acc ⟨#[]⟩) R ∧ Ev (fun k => impl_ReadBlock.l0 k s p 4 acc.length true (acc ++ List.replicate d z69) ⟨#[]⟩) R ∧ RbOk s R := by
  induction d with
  | zero =>
    intro acc p hl p0 p1 hn
    have hn' : ∀ x ∈ acc, x.f0.size ≤ 140737488351232 := fun x hx => by have := hn x hx; omega
    have ks : ∀ k, spec_ReadBlock.l0 (k + 1) s p acc.length true acc ⟨#[]⟩ = spec_ReadBlock.j1 k s p acc.length false true acc ⟨#[]⟩ := fun k => by
      simp only [spec_ReadBlock.l0]
      rw [if_neg (by omega)]
    have kj : ∀ k, spec_ReadBlock.j1 (k + 1) s p acc.length false true acc ⟨#[]⟩ = (spec_BlockText.f k true acc ⟨#[]⟩).bind (fun q => if q.2 = true then (if q.1.toList = s.toList then some (true, acc, (⟨#[]⟩ : ByteArray), true) else some noB) else some noB) := fun k => by
      simp only [spec_ReadBlock.j1, Bool.false_eq_true, if_false]
      rfl
    have ki : ∀ k, impl_ReadBlock.l0 (k + 1) s p 4 acc.length true (acc ++ List.replicate 0 z69) ⟨#[]⟩ = (impl_BlockText.f k true acc ⟨#[]⟩).bind (fun q => if q.2 = true then (if q.1.toList = s.toList then some (true, acc, (⟨#[]⟩ : ByteArray), true) else some noB) else some noB) := fun k => by
      rw [List.replicate_zero, List.append_nil]
      simp only [impl_ReadBlock.l0]
      rw [if_neg (by omega)]
      rfl
    have hf : (if (BT true acc ⟨#[]⟩).2 = true then (if (BT true acc ⟨#[]⟩).1.toList = s.toList then some (true, acc, (⟨#[]⟩ : ByteArray), true) else some noB) else some noB) = some (fin s true acc ⟨#[]⟩) := by
      unfold fin
      split
      · split <;> rfl
      · rfl
    exact ⟨fin s true acc ⟨#[]⟩, Ev.step ks (Ev.step kj (Ev.bind (spec_blocktext true acc ⟨#[]⟩ hn') (Ev.now' fun _ => hf))), Ev.step ki (Ev.bind (impl_blocktext true acc ⟨#[]⟩ (by omega) hn') (Ev.now' fun _ => hf)), fin_ok s true acc ⟨#[]⟩ (by omega) hn (Nat.zero_le s.size)⟩
  | succ d ih =>
    intro acc p hl p0 p1 hn
    have hn' : ∀ x ∈ acc, x.f0.size ≤ 140737488351232 := fun x hx => by have := hn x hx; omega
    have hw : wrap64 ((acc.length : Int) + 1) = ((acc.length + 1 : Nat) : Int) := by rw [w64 (by omega) (by omega)]; omega
    have hwp : wrap64 (p + 1) = p + 1 := w64 (by omega) (by omega)
    have hb := bt_range s p
    obtain ⟨⟨nm, nx, ok⟩, h1, h2, h3⟩ := readshort_in s (by omega) (p + 1)
    cases ok with
    | false =>
      refine ⟨noB, ?_, ?_, noB_ok s⟩
      · have ks : ∀ k, spec_ReadBlock.l0 (k + 1) s p acc.length true acc ⟨#[]⟩ = spec_ReadBlock.j1 k s p acc.length (decide (p < (s.size : Int))) true acc ⟨#[]⟩ := fun k => by
          simp only [spec_ReadBlock.l0]
          rw [if_pos (by omega)]
        by_cases hp : p < (s.size : Int)
        · have kj : ∀ k, spec_ReadBlock.j1 (k + 1) s p acc.length true true acc ⟨#[]⟩ = (spec_ReadShort.f k s (p + 1)).bind (fun q => if q.2.2 = true then (if 0 ≤ p then (if p < (s.size : Int) then (if acc.length < 5864062014805 then spec_ReadBlock.l0 k s q.2.1 ((acc.length + 1 : Nat) : Int) true (acc ++ [(⟨q.1, wrap64 (bt s p)⟩ : S69)]) ⟨#[]⟩ else none) else none) else none) else some noB) := fun k => by
            simp only [spec_ReadBlock.j1, if_true, hw, hwp]
            rfl
          rw [decide_eq_true hp] at ks
          exact Ev.step ks (Ev.step kj (Ev.bind h1 (Ev.now' fun _ => rfl)))
        · have kj : ∀ k, spec_ReadBlock.j1 (k + 1) s p acc.length false true acc ⟨#[]⟩ = (spec_BlockText.f k true acc ⟨#[]⟩).bind (fun q => if q.2 = true then (if q.1.toList = s.toList then some (true, acc, (⟨#[]⟩ : ByteArray), true) else some noB) else some noB) := fun k => by
            simp only [spec_ReadBlock.j1, Bool.false_eq_true, if_false]
            rfl
          rw [decide_eq_false hp] at ks
          refine Ev.step ks (Ev.step kj (Ev.bind (spec_blocktext true acc ⟨#[]⟩ hn') (Ev.now' fun _ => ?_)))
          rw [BT_short acc _ (by omega)]
          rfl
      · have ki : ∀ k, impl_ReadBlock.l0 (k + 1) s p 4 acc.length true (acc ++ List.replicate (d + 1) z69) ⟨#[]⟩ = (impl_ReadShort.f k s (p + 1)).bind (fun q => if q.2.2 = true then (if 0 ≤ p then (if p < (s.size : Int) then impl_ReadBlock.l0 k s q.2.1 4 ((acc.length + 1 : Nat) : Int) true ((acc ++ [(⟨q.1, wrap64 (bt s p)⟩ : S69)]) ++ List.replicate d z69) ⟨#[]⟩ else none) else none) else some noB) := fun k => by
          simp only [impl_ReadBlock.l0, hwp, hw]
          rw [if_pos (by omega)]
          simp only [if_pos (show (0 : Int) ≤ (acc.length : Int) by omega), if_pos (show (acc.length : Int) < ((acc ++ List.replicate (d + 1) z69).length : Int) by rw [List.length_append, List.length_replicate]; omega), Int.toNat_natCast, set_rep]
          rfl
        exact Ev.step ki (Ev.bind h2 (Ev.now' fun _ => rfl))
    | true =>
      obtain ⟨q1, q2, q3, q4, q5⟩ := h3 rfl
      simp only at q1 q2 q3
      obtain ⟨R, e1, e2, hR⟩ := ih (acc ++ [(⟨nm, wrap64 (bt s p)⟩ : S69)]) nx (by simp; omega) q2 q3 (fun x hx => by
        rcases List.mem_append.1 hx with hx | hx
        · exact hn x hx
        · rw [List.mem_singleton.1 hx]
          exact q1)
      rw [List.length_append, List.length_singleton] at e1 e2
      refine ⟨R, ?_, ?_, hR⟩
      · have ks : ∀ k, spec_ReadBlock.l0 (k + 1) s p acc.length true acc ⟨#[]⟩ = spec_ReadBlock.j1 k s p acc.length true true acc ⟨#[]⟩ := fun k => by
          simp only [spec_ReadBlock.l0]
          rw [if_pos (by omega), decide_eq_true (by omega)]
        have kj : ∀ k, spec_ReadBlock.j1 (k + 1) s p acc.length true true acc ⟨#[]⟩ = (spec_ReadShort.f k s (p + 1)).bind (fun q => if q.2.2 = true then spec_ReadBlock.l0 k s q.2.1 ((acc.length + 1 : Nat) : Int) true (acc ++ [(⟨q.1, wrap64 (bt s p)⟩ : S69)]) ⟨#[]⟩ else some noB) := fun k => by
          simp only [spec_ReadBlock.j1, if_true, hw, hwp, if_pos p0, if_pos (show p < (s.size : Int) by omega), if_pos (show acc.length < 5864062014805 by omega)]
          rfl
        exact Ev.step ks (Ev.step kj (Ev.bind h1 (Ev.congr (fun k => by rw [if_pos rfl]) e1)))
      · have ki : ∀ k, impl_ReadBlock.l0 (k + 1) s p 4 acc.length true (acc ++ List.replicate (d + 1) z69) ⟨#[]⟩ = (impl_ReadShort.f k s (p + 1)).bind (fun q => if q.2.2 = true then impl_ReadBlock.l0 k s q.2.1 4 ((acc.length + 1 : Nat) : Int) true ((acc ++ [(⟨q.1, wrap64 (bt s p)⟩ : S69)]) ++ List.replicate d z69) ⟨#[]⟩ else some noB) := fun k => by
          simp only [impl_ReadBlock.l0, hwp, hw]
          rw [if_pos (by omega)]
          simp only [if_pos p0, if_pos (show p < (s.size : Int) by omega), if_pos (show (0 : Int) ≤ (acc.length : Int) by omega), if_pos (show (acc.length : Int) < ((acc ++ List.replicate (d + 1) z69).length : Int) by rw [List.length_append, List.length_replicate]; omega), Int.toNat_natCast, set_rep]
          rfl
        exact Ev.step ki (Ev.bind h2 (Ev.congr (fun k => by rw [if_pos rfl]) e2))
theorem readblock_ev (s : ByteArray) (hs : s.size ≤ 1048576) : ∃ R, Ev (fun k => spec_ReadBlock.f k s) R ∧ Ev (fun k => impl_ReadBlock.f k s) R ∧ RbOk s R := by
  unfold spec_ReadBlock.f impl_ReadBlock.f
  by_cases h0 : s.toList = ([] : List UInt8)
  · exact ⟨noB, Ev.now' fun _ => by rw [if_pos h0]; rfl, Ev.now' fun _ => by rw [if_pos h0]; rfl, noB_ok s⟩
  · have hz : s.size ≠ 0 := fun e => h0 (by
      rw [Go.Lib.toList_data]
      have : s.data = #[] := Array.eq_empty_of_size_eq_zero e
      rw [this])
    simp only [if_neg h0, if_pos (show (1 : Int) ≤ (s.size : Int) by omega), if_pos (show (0 : Int) < (s.size : Int) by omega)]
    by_cases hd : bt s 0 = 100
    · simp only [if_pos hd]
      obtain ⟨R, e1, e2, hR⟩ := rb_loop s hs 4 [] 1 rfl (by omega) (by omega) (fun x hx => by simp at hx)
      exact ⟨R, e1, e2, hR⟩
    · simp only [if_neg hd]
      have hsz : (s.extract 1 s.size).size ≤ s.size := by rw [ByteArray.size_extract]; omega
      have hf : (if (BT false [] (s.extract 1 s.size)).2 = true then (if (BT false [] (s.extract 1 s.size)).1.toList = s.toList then some (false, ([] : List S69), s.extract 1 s.size, true) else some noB) else some noB) = some (fin s false [] (s.extract 1 s.size)) := by
        unfold fin
        split
        · split <;> rfl
        · rfl
      exact ⟨fin s false [] (s.extract 1 s.size), Ev.bind (spec_blocktext false [] _ (fun x hx => by simp at hx)) (Ev.now' fun _ => hf), Ev.bind (impl_blocktext false [] _ (by simp) (fun x hx => by simp at hx)) (Ev.now' fun _ => hf), fin_ok s false [] _ (by simp) (fun x hx => by simp at hx) hsz⟩

theorem bt_str (xs : List Int) (i : Nat) (hi : i < xs.length) (h : ∀ x ∈ xs, 0 ≤ x ∧ x ≤ 255) : bt (strOfNums xs) (i : Int) = xs.getD i 0 := by
  unfold bt
  have hs := strOfNums_size xs
  rw [dif_pos (by rw [Int.toNat_natCast, hs]; exact hi)]
  have e : (strOfNums xs)[((i : Int)).toNat]'(by rw [Int.toNat_natCast, hs]; exact hi) = UInt8.ofNat (xs[i]).toNat := by
    show (strOfNums xs).data[((i : Int)).toNat]'_ = _
    have := strOfNums_data xs
    simp only [strOfNums, Int.toNat_natCast, List.getElem_toArray, List.getElem_map]
  have hx := h (xs[i]) (List.getElem_mem hi)
  rw [e, List.getD_eq_getElem?_getD, List.getElem?_eq_getElem hi, Option.getD_some, UInt8.toNat_ofNat']
  omega
theorem str_three (s : ByteArray) (h : s.size = 3) : strOfNums [bt s 0, bt s 1, bt s 2] = s := by
  apply toList_inj
  rw [Go.Lib.toList_data, Go.Lib.toList_data, strOfNums_data]
  have hl : s.data.toList.length = 3 := by rw [Array.length_toList]; exact h
  have hb : ∀ i : Nat, (hi : i < 3) → UInt8.ofNat (bt s (i : Int)).toNat = s.data.toList[i]'(by omega) := fun i hi => by
    unfold bt
    rw [dif_pos (by rw [Int.toNat_natCast]; omega)]
    simp only [Int.toNat_natCast]
    rw [UInt8.ofNat_toNat]
    rfl
  match hs : s.data.toList, hl with
  | [a, b, c], _ =>
    have h0 := hb 0 (by omega)
    have h1 := hb 1 (by omega)
    have h2 := hb 2 (by omega)
    simp only [hs] at h0 h1 h2
    simp only [List.map_cons, List.map_nil, List.cons.injEq, and_true]
    exact ⟨h0, h1, h2⟩

theorem bt_list (s : ByteArray) (i : Nat) : bt s (i : Int) = ((s.data.toList[i]?).map (fun c => (c.toNat : Int))).getD 0 := by
  unfold bt
  by_cases h : i < s.size
  · have hl : i < s.data.toList.length := by rw [Array.length_toList]; exact h
    rw [dif_pos (by rw [Int.toNat_natCast]; exact h), List.getElem?_eq_getElem hl]
    simp only [Int.toNat_natCast, Option.map_some, Option.getD_some]
    rfl
  · have hl : s.data.toList.length ≤ i := by rw [Array.length_toList]; exact Nat.le_of_not_lt h
    rw [dif_neg (by rw [Int.toNat_natCast]; exact h), List.getElem?_eq_none hl]
    rfl
theorem dlen (s : ByteArray) : s.data.toList.length = s.size := by rw [Array.length_toList]; rfl
theorem app_data (a b : ByteArray) : (a ++ b).data.toList = a.data.toList ++ b.data.toList := by rw [ByteArray.data_append, Array.toList_append]
theorem bt_right (a b : ByteArray) (i : Nat) : bt (a ++ b) ((a.size + i : Nat) : Int) = bt b (i : Int) := by
  rw [bt_list, bt_list, app_data, List.getElem?_append_right (by rw [dlen]; omega), dlen, Nat.add_sub_cancel_left]
theorem bt_left (a b : ByteArray) (i : Nat) (h : i < a.size) : bt (a ++ b) (i : Int) = bt a (i : Int) := by
  rw [bt_list, bt_list, app_data, List.getElem?_append_left (by rw [dlen]; exact h)]
theorem ext_mid (a b c : ByteArray) : (a ++ (b ++ c)).extract a.size (a.size + b.size) = b := by
  apply toList_inj
  rw [Go.Lib.toList_data, Go.Lib.toList_data, Go.Lib.extract_data, app_data, app_data, ← dlen a, List.drop_left, Nat.add_sub_cancel_left, ← dlen b, List.take_left]
theorem bt_one (c : Int) (h0 : 0 ≤ c) (h1 : c ≤ 255) : bt (strOfNums [c]) 0 = c := by
  have h := bt_str [c] 0 (by simp) (fun x hx => by rw [List.mem_singleton.1 hx]; exact ⟨h0, h1⟩)
  exact h

theorem venc_small (n : Nat) (h : n ≤ 127) : venc n = [(n : Int)] := by
  unfold venc
  rw [if_neg (by omega)]
theorem shortback (pre nm post : ByteArray) (s : ByteArray) (hs : s.size ≤ 1048576) (e : s = pre ++ (strOfNums (venc nm.size) ++ (nm ++ post))) (h : nm.size ≤ 6) : Ev (fun k => impl_ReadShort.f k s (pre.size : Int)) (nm, ((pre.size + 1 + nm.size : Nat) : Int), true) := by
  have hv := venc_small nm.size (by omega)
  have hsz : s.size = pre.size + (1 + (nm.size + post.size)) := by
    rw [e, ByteArray.size_append, ByteArray.size_append, ByteArray.size_append, hv, strOfNums_size]
    rfl
  have hb : bt s ((pre.size + 0 : Nat) : Int) = (nm.size : Int) := by
    rw [e, bt_right, hv, bt_left _ _ 0 (by rw [strOfNums_size]; exact Nat.one_pos)]
    exact bt_one _ (by omega) (by omega)
  have hrv : Ev (fun k => impl_ReadVar.f k s (pre.size : Int)) ((nm.size : Int), ((pre.size + 0 + 1 : Nat) : Int), true) := by
    unfold impl_ReadVar.f
    simp only [within_eq, Option.bind_some, decide_eq_true (show (0 : Int) ≤ (pre.size : Int) ∧ (pre.size : Int) ≤ (s.size : Int) by omega), if_true]
    refine Ev.step (f := fun k => impl_ReadVar.j1 k s (pre.size : Int) ((0 : Nat) : Int) ((0 : Nat) : Int) true) (fun k => ?_) (Ev.last fun k => ?_)
    · have := impl_into (s := s) (a := pre.size) (v := 0) (j := 0) (k := k) (by omega) (by omega) (by omega)
      rw [decide_eq_true (by omega)] at this
      exact this
    · have hn : wrap64 (((0 : Nat) : Int) + shl .i64 (Int.tmod (wrap64 (nm.size : Int)) 128) (7 * ((0 : Nat) : Int))) = (nm.size : Int) := by
        have hx := shl_eq (nm.size : Int) 0 (by omega) (by omega) (by omega)
        rw [w64 (x := (nm.size : Int)) (by omega) (by omega), tmod_nn (by omega), show (nm.size : Int) % 128 = nm.size by omega, hx, w64 (by simp <;> omega) (by simp <;> omega)]
        simp
      rw [impl_end (s := s) (a := pre.size) (v := 0) (v' := nm.size) (j := 0) (k := k) (c := (nm.size : Int)) (by omega) (by omega) (by omega) hb (by omega) hn (by omega), if_neg (by omega)]
  unfold impl_ReadShort.f
  refine Ev.bind hrv (Ev.now' fun _ => ?_)
  have hw : wrap64 ((s.size : Int) - ((pre.size + 0 + 1 : Nat) : Int)) = (s.size : Int) - ((pre.size + 0 + 1 : Nat) : Int) := w64 (by omega) (by omega)
  have hw2 : wrap64 (((pre.size + 0 + 1 : Nat) : Int) + (nm.size : Int)) = ((pre.size + 1 + nm.size : Nat) : Int) := by rw [w64 (by omega) (by omega)]; omega
  simp only [hw, hw2]
  rw [if_pos trivial, if_neg (by omega), if_neg (by omega), if_pos (by omega), if_pos (by omega), if_pos (by omega)]
  have he : s.extract (pre.size + 1) (pre.size + 1 + nm.size) = nm := by
    have q := ext_mid (pre ++ strOfNums (venc nm.size)) nm post
    rw [ByteArray.size_append, hv, strOfNums_size, app_assoc] at q
    rw [e, hv]
    exact q
  rw [show (((pre.size + 0 + 1 : Nat) : Int)).toNat = pre.size + 1 by omega, Int.toNat_natCast, he]
/-- The slots' bytes, one after another. -/
def encs : List S69 → ByteArray
  | [] => ⟨#[]⟩
  | x :: r => slotEnc x ++ encs r
theorem app_empty (a : ByteArray) : a ++ (⟨#[]⟩ : ByteArray) = a := by
  apply toList_inj
  rw [Go.Lib.toList_data, Go.Lib.toList_data, app_data]
  simp
theorem fold_encs (l : List S69) : ∀ a : ByteArray, l.foldl (fun a x => a ++ slotEnc x) a = a ++ encs l := by
  induction l with
  | nil => intro a; exact (app_empty a).symm
  | cons x r ih =>
    intro a
    rw [List.foldl_cons, ih, app_assoc]
    rfl
theorem back_step (s : ByteArray) (acc r : List S69) (x : S69) (p : Nat) (hp : p < s.size) (hs : s.size ≤ 1048576) (hb : bt s ((p : Nat) : Int) = x.f1) (hwx : wrap64 x.f1 = x.f1) (hl : acc.length + (r.length + 1) = 4) : ∀ k, impl_ReadBlock.l0 (k + 1) s (p : Int) 4 acc.length true (acc ++ List.replicate (x :: r).length z69) ⟨#[]⟩ = (impl_ReadShort.f k s ((p + 1 : Nat) : Int)).bind (fun q => if q.2.2 = true then impl_ReadBlock.l0 k s q.2.1 4 ((acc.length + 1 : Nat) : Int) true ((acc ++ [(⟨q.1, x.f1⟩ : S69)]) ++ List.replicate r.length z69) ⟨#[]⟩ else some noB) := fun k => by
  have hw : wrap64 ((acc.length : Int) + 1) = ((acc.length + 1 : Nat) : Int) := by rw [w64 (by omega) (by omega)]; omega
  have hwp : wrap64 ((p : Int) + 1) = ((p + 1 : Nat) : Int) := by rw [w64 (by omega) (by omega)]; omega
  rw [List.length_cons]
  simp only [impl_ReadBlock.l0, hwp, hw, hb, hwx]
  rw [if_pos (show (acc.length : Int) < 4 by omega)]
  simp only [if_pos (show (0 : Int) ≤ (p : Int) by omega), if_pos (show (p : Int) < (s.size : Int) by omega), if_pos (show (0 : Int) ≤ (acc.length : Int) by omega), if_pos (show (acc.length : Int) < ((acc ++ List.replicate (r.length + 1) z69).length : Int) by rw [List.length_append, List.length_replicate]; omega), Int.toNat_natCast, set_rep]
  rfl
theorem back_loop (s : ByteArray) (hs : s.size ≤ 1048576) (rest : List S69) : ∀ (acc : List S69) (pre : ByteArray), acc.length + rest.length = 4 → s = pre ++ encs rest → (∀ x ∈ acc, x.f0.size ≤ 6) → (∀ x ∈ rest, x.f0.size ≤ 6 ∧ 0 ≤ x.f1 ∧ x.f1 ≤ 8) → Ev (fun k => impl_ReadBlock.l0 k s (pre.size : Int) 4 acc.length true (acc ++ List.replicate rest.length z69) ⟨#[]⟩) (fin s true (acc ++ rest) ⟨#[]⟩) := by
  induction rest with
  | nil =>
    intro acc pre hl e ha hr
    have hn' : ∀ x ∈ acc, x.f0.size ≤ 140737488351232 := fun x hx => by have := ha x hx; omega
    simp only [List.length_nil, Nat.add_zero] at hl
    have ki : ∀ k, impl_ReadBlock.l0 (k + 1) s (pre.size : Int) 4 acc.length true (acc ++ List.replicate ([] : List S69).length z69) ⟨#[]⟩ = (impl_BlockText.f k true acc ⟨#[]⟩).bind (fun q => if q.2 = true then (if q.1.toList = s.toList then some (true, acc, (⟨#[]⟩ : ByteArray), true) else some noB) else some noB) := fun k => by
      rw [List.length_nil, List.replicate_zero, List.append_nil]
      simp only [impl_ReadBlock.l0]
      rw [if_neg (by omega)]
      rfl
    have hf : (if (BT true acc ⟨#[]⟩).2 = true then (if (BT true acc ⟨#[]⟩).1.toList = s.toList then some (true, acc, (⟨#[]⟩ : ByteArray), true) else some noB) else some noB) = some (fin s true acc ⟨#[]⟩) := by
      unfold fin
      split
      · split <;> rfl
      · rfl
    rw [List.append_nil]
    exact Ev.step ki (Ev.bind (impl_blocktext true acc ⟨#[]⟩ (by omega) hn') (Ev.now' fun _ => hf))
  | cons x r ih =>
    intro acc pre hl e ha hr
    obtain ⟨hx6, hx0, hx8⟩ := hr x List.mem_cons_self
    simp only [List.length_cons] at hl
    have e1 : encs (x :: r) = strOfNums [x.f1 % 256] ++ (strOfNums (venc x.f0.size) ++ (x.f0 ++ encs r)) := by
      show slotEnc x ++ encs r = _
      unfold slotEnc
      rw [app_assoc, app_assoc]
    have hv := venc_small x.f0.size (by omega)
    have hsz : s.size = pre.size + (1 + (1 + (x.f0.size + (encs r).size))) := by
      rw [e, e1, hv]
      simp only [ByteArray.size_append, strOfNums_size, List.length_singleton]
    have hp1 : (pre ++ strOfNums [x.f1 % 256]).size = pre.size + 1 := by
      rw [ByteArray.size_append, strOfNums_size]
      rfl
    have hb : bt s ((pre.size : Nat) : Int) = x.f1 := by
      have q := bt_right pre (encs (x :: r)) 0
      rw [e, show ((pre.size : Nat) : Int) = ((pre.size + 0 : Nat) : Int) by omega, q, e1, bt_left _ _ 0 (by rw [strOfNums_size]; exact Nat.one_pos)]
      show bt (strOfNums [x.f1 % 256]) 0 = x.f1
      rw [bt_one _ (by omega) (by omega)]
      omega
    have hrs := shortback (pre ++ strOfNums [x.f1 % 256]) x.f0 (encs r) s hs (by rw [e, e1, app_assoc]) hx6
    rw [hp1] at hrs
    have hih := ih (acc ++ [x]) (pre ++ slotEnc x) (by simp; omega) (by rw [e, app_assoc]; rfl) (fun y hy => by
      rcases List.mem_append.1 hy with hy | hy
      · exact ha y hy
      · rw [List.mem_singleton.1 hy]; exact hx6) (fun y hy => hr y (List.mem_cons_of_mem _ hy))
    have hps : (pre ++ slotEnc x).size = pre.size + 1 + 1 + x.f0.size := by
      unfold slotEnc
      rw [hv]
      simp only [ByteArray.size_append, strOfNums_size, List.length_singleton]
      omega
    rw [hps, List.length_append, List.length_singleton, List.append_assoc acc [x] r] at hih
    have hwx : wrap64 x.f1 = x.f1 := w64 (by omega) (by omega)
    have hp : pre.size < s.size := by rw [hsz]; exact Nat.lt_add_of_pos_right (by omega)
    have ki := back_step s acc r x pre.size hp hs hb hwx hl
    exact Ev.step ki (Ev.bind hrs (Ev.congr (fun k => by rw [if_pos rfl]) hih))
theorem foldl_size (l : List S69) (hs : ∀ x ∈ l, x.f0.size ≤ 6) : (encs l).size ≤ 14 * l.length := by
  induction l with
  | nil => simp [encs, ByteArray.size]
  | cons x r ih =>
    have h1 := ih (fun y hy => hs y (List.mem_cons_of_mem _ hy))
    have h2 := slotEnc_size x (hs x List.mem_cons_self)
    show (slotEnc x ++ encs r).size ≤ _
    rw [ByteArray.size_append, List.length_cons]
    omega
theorem BT_size (b : Bool) (l : List S69) (t : ByteArray) (hn : ∀ x ∈ l, x.f0.size ≤ 140737488351232) : (BT b l t).1.size ≤ 1000 := by
  unfold BT
  by_cases h : dB (BOk b l t) = true
  · rw [if_pos h]
    by_cases hb : b = true
    · rw [if_pos hb]
      obtain ⟨h4, hs⟩ := BOk_small hn hb (of_dB h)
      have := foldl_size l hs
      rw [fold_encs]
      show ((⟨#[100]⟩ : ByteArray) ++ encs l).size ≤ 1000
      have h1 : (⟨#[100]⟩ : ByteArray).size = 1 := rfl
      rw [ByteArray.size_append]
      omega
    · rw [if_neg hb]
      have h16 := of_dB h
      unfold BOk at h16
      rw [if_neg hb] at h16
      show ((⟨#[116]⟩ : ByteArray) ++ t).size ≤ 1000
      have h1 : (⟨#[116]⟩ : ByteArray).size = 1 := rfl
      rw [ByteArray.size_append]
      omega
  · rw [if_neg h]
    simp [ByteArray.size]
theorem ne_toList {s : ByteArray} (h : 1 ≤ s.size) : ¬ s.toList = ([] : List UInt8) := toList_ne h
/-- A right block comes back from its bytes. -/
theorem impl_readback (b : Bool) (l : List S69) (t : ByteArray) (hn : ∀ x ∈ l, x.f0.size ≤ 140737488351232) (h : BOk b l t) : Ev (fun k => impl_ReadBlock.f k (BT b l t).1) (b, l, t, true) := by
  have hsz := BT_size b l t hn
  have hfin : ∀ s, s = (BT b l t).1 → fin s b l t = (b, l, t, true) := fun s e => by
    unfold fin
    have h2 : (BT b l t).2 = true := by
      unfold BT
      rw [dB_true h]
      cases b <;> rfl
    rw [if_pos h2, e, if_pos rfl]
  cases b with
  | true =>
    obtain ⟨h4, hs⟩ := BOk_small hn rfl h
    have hB := h
    unfold BOk at hB
    rw [if_pos rfl] at hB
    have ht : t = ⟨#[]⟩ := toList_inj (by rw [hB.2.2, empty_toList0])
    subst ht
    have e : (BT true l ⟨#[]⟩).1 = (⟨#[100]⟩ : ByteArray) ++ encs l := by
      unfold BT
      rw [if_pos (dB_true h), if_pos rfl, fold_encs]
    have hrng : ∀ x ∈ l, x.f0.size ≤ 6 ∧ 0 ≤ x.f1 ∧ x.f1 ≤ 8 := fun x hx => by
      refine ⟨hs x hx, ?_⟩
      obtain ⟨j, hj, ej⟩ := List.mem_iff_getElem.1 hx
      have e2 : l.getD j z69 = x := by rw [List.getD_eq_getElem?_getD, List.getElem?_eq_getElem hj, ← ej]; rfl
      have q := hB.1 j hj
      unfold SOk at q
      rw [e2] at q
      rcases q with q | q
      · omega
      · omega
    have hloop := back_loop (BT true l ⟨#[]⟩).1 (by omega) l [] (⟨#[100]⟩ : ByteArray) (by simpa using h4) e (fun x hx => by simp at hx) hrng
    rw [List.nil_append, List.nil_append, hfin _ rfl, h4] at hloop
    have h100 : bt (BT true l ⟨#[]⟩).1 0 = 100 := by
      have q := bt_left (⟨#[100]⟩ : ByteArray) (encs l) 0 (by decide)
      rw [e]
      exact q.trans (by decide)
    have hs1 : 1 ≤ (BT true l ⟨#[]⟩).1.size := by
      have h1 : (⟨#[100]⟩ : ByteArray).size = 1 := rfl
      rw [e, ByteArray.size_append]
      omega
    unfold impl_ReadBlock.f
    simp only [if_neg (toList_ne hs1), if_pos (show (1 : Int) ≤ ((BT true l ⟨#[]⟩).1.size : Int) by omega), if_pos (show (0 : Int) < ((BT true l ⟨#[]⟩).1.size : Int) by omega), if_pos h100]
    exact hloop
  | false =>
    have hB := h
    unfold BOk at hB
    rw [if_neg (by decide)] at hB
    obtain ⟨hl0, h16⟩ := hB
    obtain rfl : l = [] := List.eq_nil_of_length_eq_zero hl0
    have e : (BT false [] t).1 = (⟨#[116]⟩ : ByteArray) ++ t := by
      unfold BT
      rw [if_pos (dB_true h), if_neg (by decide)]
    have h1 : (⟨#[116]⟩ : ByteArray).size = 1 := rfl
    have hs1 : (BT false [] t).1.size = 1 + t.size := by
      rw [e, ByteArray.size_append]
      omega
    have h116 : ¬ bt (BT false [] t).1 0 = 100 := by
      have q := bt_left (⟨#[116]⟩ : ByteArray) t 0 (by decide)
      rw [e]
      intro h
      have h2 := q.symm.trans h
      revert h2
      decide
    have hext : (BT false [] t).1.extract 1 (BT false [] t).1.size = t := by
      have q := ext_mid (⟨#[116]⟩ : ByteArray) t ⟨#[]⟩
      rw [app_empty] at q
      rw [hs1, e]
      exact q
    unfold impl_ReadBlock.f
    simp only [if_neg (toList_ne (show 1 ≤ (BT false [] t).1.size by omega)), if_pos (show (1 : Int) ≤ ((BT false [] t).1.size : Int) by omega), if_pos (show (0 : Int) < ((BT false [] t).1.size : Int) by omega), if_neg h116, hext]
    refine Ev.bind (impl_blocktext false [] t (by simp) (fun x hx => by simp at hx)) (Ev.now' fun _ => ?_)
    have hf := hfin _ rfl
    unfold fin at hf
    have h2 : (BT false [] t).2 = true := by
      unfold BT
      rw [dB_true h]
      rfl
    rw [if_pos h2, if_pos rfl]

theorem spoilt_ev (s : List Int) (hs : s.length ≤ 140737488351232) (i h : Int) (x : ByteArray) (hx : x.size ≤ 100000) (h0 : 0 ≤ i) (h1 : i ≤ s.length) : ∃ r i' h', Ev (fun k => spec_l02Spoilt.f k s i h x) (r, i', h') ∧ r.size ≤ x.size + 1 ∧ 0 ≤ i' ∧ i' ≤ s.length := by
  obtain ⟨c, i1, g1, e1, a0, a1, c0, _, _⟩ := below_some s hs i h 12 h0 h1
  have keep : ∀ k, spec_l02Spoilt.j0 (k + 1) x false s i1 g1 = some (x, i1, g1) := fun k => by simp only [spec_l02Spoilt.j0]; rfl
  have turn : ∃ r i' h', Ev (fun k => spec_l02Spoilt.j0 k x true s i1 g1) (r, i', h') ∧ r.size ≤ x.size + 1 ∧ 0 ≤ i' ∧ i' ≤ s.length := by
    by_cases hp : (x.size : Int) > 0
    · obtain ⟨d, i2, g2, e2, b0, b1, d0, _, d1⟩ := below_some s hs i1 g1 (x.size : Int) a0 a1
      have d2 := d1 (by omega)
      obtain ⟨t, i3, g3, ht, ht1, q0, q1⟩ := text_ev s hs i2 g2 1 (by omega) (by omega) b0 b1
      have hw : wrap64 (d + 1) = d + 1 := w64 (by omega) (by omega)
      have s1 := size_extract x 0 d.toNat (by omega)
      have s2 := size_extract x (d + 1).toNat x.size (by omega)
      refine ⟨(x.extract 0 d.toNat ++ t) ++ x.extract (d + 1).toNat x.size, i3, g3, Ev.step (f := fun k => (spec_l01Text.f k s i2 g2 1).bind fun b => if (x.extract 0 d.toNat).size + b.1.size ≤ 9223372036854775807 then (if ((x.extract 0 d.toNat) ++ b.1).size + (x.extract (d + 1).toNat x.size).size ≤ 9223372036854775807 then some (((x.extract 0 d.toNat) ++ b.1) ++ (x.extract (d + 1).toNat x.size), b.2.1, b.2.2) else none) else none) (fun k => ?_) (Ev.bind ht (Ev.now' fun _ => ?_)), ?_, q0, q1⟩
      · simp only [spec_l02Spoilt.j0, if_true, if_pos hp, e2, Option.bind_some, hw]
        rw [if_pos d0, if_pos (by omega)]
        simp only [if_pos (show (0 : Int) ≤ d + 1 by omega), if_pos (show d + 1 ≤ (x.size : Int) by omega)]
      · simp only
        rw [if_pos (by omega), if_pos (by rw [ByteArray.size_append]; omega)]
      · rw [ByteArray.size_append, ByteArray.size_append]
        omega
    · exact ⟨x, i1, g1, Ev.last fun k => by simp only [spec_l02Spoilt.j0, if_true]; rw [if_neg hp], by omega, a0, a1⟩
  unfold spec_l02Spoilt.f
  simp only [e1, Option.bind_some]
  by_cases k0 : c = 0
  · obtain ⟨t, i3, g3, ht, ht1, q0, q1⟩ := text_ev s hs i1 g1 1 (by omega) (by omega) a0 a1
    refine ⟨x ++ t, i3, g3, ?_, by rw [ByteArray.size_append]; omega, q0, q1⟩
    simp only [if_pos k0]
    refine Ev.bind ht (Ev.now' fun _ => ?_)
    simp only
    rw [if_pos (by omega)]
  · by_cases k1 : c = 1
    · have hw : wrap64 ((x.size : Int) + 1) = (x.size : Int) + 1 := w64 (by omega) (by omega)
      obtain ⟨d, i2, g2, e2, b0, b1, d0, _, d1⟩ := below_some s hs i1 g1 ((x.size : Int) + 1) a0 a1
      have d2 := d1 (by omega)
      refine ⟨x.extract 0 d.toNat, i2, g2, ?_, ?_, b0, b1⟩
      · simp only [if_neg k0, if_pos k1, hw, e2, Option.bind_some]
        exact Ev.now' fun _ => by rw [if_pos d0, if_pos (by omega)]
      · rw [size_extract x 0 d.toNat (by omega)]
        omega
    · by_cases k2 : c = 2
      · obtain ⟨r, i', h', hr, q⟩ := turn
        refine ⟨r, i', h', ?_, q⟩
        simp only [if_neg k0, if_neg k1, if_pos k2]
        rw [k2]
        exact hr
      · by_cases k3 : c = 3
        · obtain ⟨r, i', h', hr, q⟩ := turn
          refine ⟨r, i', h', ?_, q⟩
          simp only [if_neg k0, if_neg k1, if_neg k2]
          rw [k3]
          exact hr
        · refine ⟨x, i1, g1, ?_, by omega, a0, a1⟩
          simp only [if_neg k0, if_neg k1, if_neg k2, beq_eq_false_iff_ne.2 k3]
          exact Ev.last keep

theorem sameblock_refl_loop (b : Bool) (l : List S69) (t : ByteArray) (hl : l.length ≤ 4) (d : Nat) : ∀ i : Nat, i ≤ l.length → l.length - i = d → Ev (fun k => laws_sameBlock.l0 k (i : Int) b l t b l t) true := by
  induction d with
  | zero =>
    intro i hi hd
    exact Ev.last fun k => by simp only [laws_sameBlock.l0]; rw [if_neg (by omega)]
  | succ d ih =>
    intro i hi hd
    have hw : wrap64 ((i : Int) + 1) = ((i + 1 : Nat) : Int) := by rw [w64 (by omega) (by omega)]; omega
    refine Ev.step (fun k => ?_) (ih (i + 1) (by omega) (by omega))
    simp only [laws_sameBlock.l0, beq_self_eq_true, Bool.not_true, Bool.or_self, hw]
    rw [if_pos (by omega), if_pos (by omega), if_pos (by omega)]
    rfl
theorem sameblock_refl (b : Bool) (l : List S69) (t : ByteArray) (hl : l.length ≤ 4) : Ev (fun k => laws_sameBlock.f k b l t b l t) true := by
  unfold laws_sameBlock.f
  simp only [bne_self_eq_false, Bool.false_eq_true, if_false, if_true]
  exact Ev.step (f := fun k => laws_sameBlock.l0 k 0 b l t b l t) (fun k => by simp only [laws_sameBlock.j0]; rfl) (sameblock_refl_loop b l t hl l.length 0 (Nat.zero_le _) rfl)
theorem FnBlocks : laws_FnBlocks.Pure := by
  intro s hm hs _
  have hs' : s.length ≤ 140737488351232 := by omega
  unfold laws_FnBlocks.f
  by_cases hb : (s.length : Int) > 1048576
  · refine ⟨0, ?_⟩
    rw [big_eq, decide_eq_true hb]
    rfl
  · obtain ⟨h0, hnew⟩ := new_ev s hs'
    obtain ⟨b, l, t, i1, g1, hany, hl, ⟨hnm, ht⟩, a0, a1⟩ := l04any_ev s hs' 0 h0 (by omega) (by omega)
    have hn : ∀ x ∈ l, x.f0.size ≤ 140737488351232 := fun x hx => by have := hnm x hx; omega
    have hdraw : Ev (fun k => spec_DrawBlockText.f k s) (b, l, t) := by
      unfold spec_DrawBlockText.f
      exact Ev.bind hnew (Ev.bind hany (Ev.now _))
    have hsz := BT_size b l t hn
    obtain ⟨y, hdr, hy⟩ : ∃ y, Ev (fun k => spec_DrawReadBlock.f k s) y ∧ y.size ≤ 1001 := by
      obtain ⟨c, i2, g2, e2, b0, b1⟩ := once_some s hs' i1 g1 3 a0 a1
      unfold spec_DrawReadBlock.f
      cases c with
      | true =>
        obtain ⟨r, i3, g3, hr, hrs, _, _⟩ := spoilt_ev s hs' i2 g2 (BT b l t).1 (by omega) b0 b1
        refine ⟨r, Ev.bind hnew (Ev.bind hany (Ev.bind (spec_blocktext b l t hn) ?_)), by omega⟩
        simp only [e2, Option.bind_some, if_true]
        exact Ev.bind hr (Ev.now _)
      | false =>
        refine ⟨(BT b l t).1, Ev.bind hnew (Ev.bind hany (Ev.bind (spec_blocktext b l t hn) ?_)), by omega⟩
        simp only [e2, Option.bind_some, Bool.false_eq_true, if_false]
        exact Ev.now _
    obtain ⟨⟨b1', l1, t1, ok1⟩, _, r1, _⟩ := readblock_ev (BT b l t).1 (by omega)
    obtain ⟨⟨b2, l2, t2, ok2⟩, r2s, r2i, hR⟩ := readblock_ev y (by omega)
    obtain ⟨q1, q2, q3, q4⟩ := hR
    simp only at q1 q2 q3 q4
    have hn2 : ∀ x ∈ l2, x.f0.size ≤ 140737488351232 := fun x hx => by have := q2 x hx; omega
    have hback : dB (BOk b l t) = true → (b1', l1, t1, ok1) = (b, l, t, true) := fun h => Ev.uniq r1 (impl_readback b l t hn (of_dB h))
    have hBT2 : (BT b l t).2 = dB (BOk b l t) := by
      unfold BT
      cases hd : dB (BOk b l t) with
      | true => cases b <;> rfl
      | false => rfl
    rw [big_eq, decide_eq_false hb]
    simp only [Option.bind_some, Bool.false_eq_true, if_false]
    refine Ev.rounds (Ev.bind hdraw (Ev.bind (impl_blocktext b l t (by omega) hn) (Ev.bind r1 (Ev.bind hdr (Ev.bind r2i (Ev.bind r2s (Ev.bind (impl_blocktext b2 l2 t2 (by omega) hn2) (Ev.bind (spec_blockok b l t hn) ?_))))))))
    simp only [hBT2, beq_self_eq_true, if_true]
    refine Ev.bind (impl_blockok b l t (by omega) hn) ?_
    simp only [beq_self_eq_true, if_true]
    have hlast : (if ok2 = true then some ((BT b2 l2 t2).1.toList == y.toList) else some true) = some true := by
      cases ok2 with
      | true => rw [if_pos rfl, q4 rfl, beq_self_eq_true]
      | false => rfl
    simp only [hlast]
    by_cases h : dB (BOk b l t) = true
    · have hb3 := hback h
      simp only [Prod.mk.injEq] at hb3
      obtain ⟨rfl, rfl, rfl, rfl⟩ := hb3
      simp only [h, if_true]
      exact Ev.bind (sameblock_refl _ _ _ hl) (Ev.now' fun _ => rfl)
    · simp only [if_neg h]
      exact Ev.now _
end Go.Proofs.Ytdnbpapolckklaa.Pure
