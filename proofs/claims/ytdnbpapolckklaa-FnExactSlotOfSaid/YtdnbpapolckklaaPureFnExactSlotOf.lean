/- FnExactSlotOf: for every Block and every text the program's SlotOf answers what the reference's does, and leaves its argument as it was; no condition. -/
import Derived.Test.YtdnbpapolckklaaPFnExactSlotOfx2
import Derived.Test.YtdnbpapolckklaaAid
namespace Go.Proofs.Ytdnbpapolckklaa.Pure
open Go.RowKit Go.Proofs.Ytdnbpapolckklaa.PFnExactSlotOf Go.Proofs.YtdnbpapolckklaaW.PrintWords Go.Proofs.YtdnbpapolckklaaW.PrintLast Go.Proofs.YtdnbpapolckklaaW.PrintMore Go.Proofs.Ytdnbpapolckklaa.Aid
set_option linter.unusedVariables false
set_option linter.unusedSimpArgs false

/-- The program's slot of a law's slot. -/
def cvS (x : S151) : S69 := ⟨x.f0, x.f1⟩
def SLim (x : S151) : Prop := x.f0.size ≤ 1048576
theorem szSlot_ev (x : S151) (a : Int) (hg : good151 x) (a0 : 0 ≤ a) (a1 : a ≤ 1048576) : ∃ r, Ev (fun _ => laws_szSlot.f x.f0 x.f1 a) r ∧ r ≤ a ∧ (r < 0 → r = -1) ∧ (0 ≤ r → SLim x) := by
  have hs := hg.1
  have hw : wrap64 (a - (x.f0.size : Int)) = a - x.f0.size := w64 (by omega) (by omega)
  unfold laws_szSlot.f SLim
  rw [hw]
  by_cases h : a - (x.f0.size : Int) < 0
  · exact ⟨-1, Ev.now' fun _ => by rw [if_pos h], by omega, fun _ => rfl, fun h => by omega⟩
  · exact ⟨a - x.f0.size, Ev.now' fun _ => by rw [if_neg h], by omega, by omega, fun _ => by omega⟩
theorem toSlot_ev (x : S151) (_ : True) : Ev (fun _ => laws_toSlot.f x.f0 x.f1) (x.f0, x.f1) := Ev.now _
theorem eqSlot_ev (x : S69) (_ : True) : Ev (fun _ => laws_eqSlot.f x.f0 x.f1 x.f0 x.f1) true := Ev.now' fun _ => by
  unfold laws_eqSlot.f
  rw [if_pos rfl, if_pos rfl]

theorem laws_szSlotS_loop (l : List S151) (hl : l.length ≤ 140737488355328) (hg : ∀ x ∈ l, good151 x) (d : Nat) : ∀ (a i : Int), 0 ≤ a → a ≤ 1048576 → 0 ≤ i → i ≤ l.length → (l.length : Int) - i = d → ∃ r, Ev (fun k => laws_szSlotS.l0 k l a i) r ∧ r ≤ a ∧ (r < 0 → r = -1) ∧ (0 ≤ r → ∀ j : Nat, i ≤ j → j < l.length → SLim (l.getD j z151)) := by
  induction d with
  | zero =>
    intro a i a0 a1 h0 h1 hd
    exact ⟨a, Ev.last (fun k => by simp only [laws_szSlotS.l0]; rw [if_neg (by omega)]), by omega, by omega, fun _ j j0 j1 => by omega⟩
  | succ d ih =>
    intro a i a0 a1 h0 h1 hd
    have hw : wrap64 (i + 1) = i + 1 := w64 (by omega) (by omega)
    obtain ⟨t, ht, t1, t2, t3⟩ := szSlot_ev (l.getD i.toNat z151) a (hg _ (getD_mem (xs := l) (i := i.toNat) z151 (by omega))) a0 a1
    have key : ∀ k, laws_szSlotS.l0 (k + 1) l a i = ((fun (k : Nat) (x : S151) (a : Int) => laws_szSlot.f x.f0 x.f1 a) k (l.getD i.toNat z151) a).bind (fun t => if t < 0 then some (-1) else laws_szSlotS.l0 k l t (i + 1)) := fun k => by
      simp only [laws_szSlotS.l0]
      rw [if_pos (by omega), if_pos h0, hw]
      rfl
    by_cases hneg : t < 0
    · exact ⟨-1, Ev.step key (Ev.bind ht (Ev.now' fun _ => by rw [if_pos hneg])), by omega, fun _ => rfl, fun h => by omega⟩
    · obtain ⟨r, hr, h2, h3, h4⟩ := ih t (i + 1) (by omega) (by omega) (by omega) (by omega) (by omega)
      refine ⟨r, Ev.step key (Ev.bind ht (Ev.congr (fun k => by rw [if_neg hneg]) hr)), by omega, h3, fun hr0 j j0 j1 => ?_⟩
      by_cases ej : j = i.toNat
      · subst ej
        exact t3 (by omega)
      · exact h4 hr0 j (by omega) j1
theorem laws_szSlotS_ev (l : List S151) (a : Int) (hl : l.length ≤ 140737488355328) (hg : ∀ x ∈ l, good151 x) (a0 : 0 ≤ a) (a1 : a ≤ 1048576) : ∃ r, Ev (fun k => laws_szSlotS.f k l a) r ∧ r ≤ a ∧ (r < 0 → r = -1) ∧ (0 ≤ r → l.length ≤ 1048576 ∧ ∀ s ∈ l, SLim s) := by
  have hw : wrap64 (a - (l.length : Int)) = a - l.length := w64 (by omega) (by omega)
  by_cases hneg : a - (l.length : Int) < 0
  · exact ⟨-1, Ev.now' fun k => by unfold laws_szSlotS.f; rw [hw, if_pos hneg], by omega, fun _ => rfl, fun h => by omega⟩
  · obtain ⟨r, hr, h2, h3, h4⟩ := laws_szSlotS_loop l hl hg l.length (a - l.length) 0 (by omega) (by omega) (by omega) (by omega) (by omega)
    refine ⟨r, Ev.congr (fun k => ?_) hr, by omega, h3, fun hr0 => ⟨by omega, fun s hs => ?_⟩⟩
    · unfold laws_szSlotS.f
      rw [hw, if_neg hneg]
    · obtain ⟨j, hj, e⟩ := List.mem_iff_getElem.1 hs
      have := h4 hr0 j (by omega) hj
      rw [List.getD_eq_getElem?_getD, List.getElem?_eq_getElem hj] at this
      rw [← e]
      exact this

theorem laws_toSlotS_loop (l : List S151) (hl : l.length ≤ 1048576) (hg : ∀ x ∈ l, (fun _ => True) x) (d : Nat) : ∀ (y : List S69) (i : Int), 0 ≤ i → i ≤ l.length → (l.length : Int) - i = d → y.length = l.length → y.take i.toNat = (l.map cvS).take i.toNat → Ev (fun k => laws_toSlotS.l0 k l y i) (l.map cvS) := by
  induction d with
  | zero =>
    intro y i h0 h1 hd hy ht
    have e : y = l.map cvS := take_all (by simpa using hy) (by rw [List.length_map, show l.length = i.toNat by omega]; exact ht)
    subst e
    exact Ev.last (fun k => by simp only [laws_toSlotS.l0]; rw [if_neg (by omega)])
  | succ d ih =>
    intro y i h0 h1 hd hy ht
    have hw : wrap64 (i + 1) = i + 1 := w64 (by omega) (by omega)
    have hx := toSlot_ev (l.getD i.toNat z151) (hg _ (getD_mem (xs := l) (i := i.toNat) z151 (by omega)))
    have hs := set_take (l.map cvS) y (cvS z151) i.toNat (by rw [List.length_map]; omega) (by simpa using hy) ht
    have hm : (l.map cvS).getD i.toNat (cvS z151) = cvS (l.getD i.toNat z151) := by simp [List.getD_eq_getElem?_getD, List.getElem?_map, List.getElem?_eq_getElem (show i.toNat < l.length by omega)]
    rw [hm] at hs
    have h2 : i < (l.length : Int) := by omega
    have h3 : i < (y.length : Int) := by omega
    have key : ∀ k, laws_toSlotS.l0 (k + 1) l y i = ((fun (k : Nat) (x : S151) => laws_toSlot.f x.f0 x.f1) k (l.getD i.toNat z151)).bind (fun t => laws_toSlotS.l0 k l (y.set i.toNat ((fun t => (⟨t.1, t.2⟩ : S69)) t)) (i + 1)) := fun k => by
      simp only [laws_toSlotS.l0, if_pos h2, if_pos h0, if_pos h3, hw]
      rfl
    exact Ev.step key (Ev.bind hx (ih (y.set i.toNat (cvS (l.getD i.toNat z151))) (i + 1) (by omega) (by omega) (by omega) (by rw [List.length_set]; exact hy) (by rw [toNat_succ h0]; exact hs)))
theorem laws_toSlotS_ev (l : List S151) (hl : l.length ≤ 1048576) (hg : ∀ x ∈ l, (fun _ => True) x) : Ev (fun k => laws_toSlotS.f k l) (l.map cvS) := by
  have h := laws_toSlotS_loop l hl hg l.length (List.replicate l.length z69) 0 (by omega) (by omega) (by omega) (by simp) (by simp)
  refine Ev.congr (fun k => ?_) h
  unfold laws_toSlotS.f
  rw [if_pos (by omega), if_pos (by omega)]
  rfl

theorem laws_eqSlotS_loop (l : List S69) (hl : l.length ≤ 1048576) (hg : ∀ x ∈ l, (fun _ => True) x) (d : Nat) : ∀ (i : Int), 0 ≤ i → i ≤ l.length → (l.length : Int) - i = d → Ev (fun k => laws_eqSlotS.l0 k l l i) true := by
  induction d with
  | zero =>
    intro i h0 h1 hd
    exact Ev.last (fun k => by simp only [laws_eqSlotS.l0]; rw [if_neg (by omega)])
  | succ d ih =>
    intro i h0 h1 hd
    have hw : wrap64 (i + 1) = i + 1 := w64 (by omega) (by omega)
    have h2 : i < (l.length : Int) := by omega
    have hx := eqSlot_ev (l.getD i.toNat z69) (hg _ (getD_mem (xs := l) (i := i.toNat) z69 (by omega)))
    have key : ∀ k, laws_eqSlotS.l0 (k + 1) l l i = ((fun (k : Nat) (x : S69) => laws_eqSlot.f x.f0 x.f1 x.f0 x.f1) k (l.getD i.toNat z69)).bind (fun t => if t = true then laws_eqSlotS.l0 k l l (i + 1) else some false) := fun k => by
      simp only [laws_eqSlotS.l0, if_pos h2, if_pos h0, hw]
      rfl
    exact Ev.step key (Ev.bind hx (Ev.congr (fun k => by rw [if_pos rfl]) (ih (i + 1) (by omega) (by omega) (by omega))))
theorem laws_eqSlotS_refl (l : List S69) (hl : l.length ≤ 1048576) (hg : ∀ x ∈ l, (fun _ => True) x) : Ev (fun k => laws_eqSlotS.f k l l) true := by
  refine Ev.congr (fun k => ?_) (laws_eqSlotS_loop l hl hg l.length 0 (by omega) (by omega) (by omega))
  unfold laws_eqSlotS.f
  rw [if_pos rfl]


theorem szBlock_ev (b : Bool) (l : List S151) (t : ByteArray) (a : Int) (hg : good54 ⟨b, l, t⟩) (a0 : 0 ≤ a) (a1 : a ≤ 1048576) : ∃ r, Ev (fun k => laws_szBlock.f k b l t a) r ∧ r ≤ a ∧ (r < 0 → r = -1) ∧ (0 ≤ r → l.length ≤ 1048576 ∧ (∀ x ∈ l, SLim x) ∧ t.size ≤ 1048576) := by
  obtain ⟨_, ⟨h1, h2⟩, h3⟩ := hg
  simp only at h1 h2 h3
  obtain ⟨r, hr, r1, r2, r3⟩ := laws_szSlotS_ev l a (by omega) h2 a0 a1
  unfold laws_szBlock.f
  by_cases hneg : r < 0
  · exact ⟨-1, Ev.bind hr (Ev.now' fun _ => by rw [if_pos hneg]), by omega, fun _ => rfl, fun h => by omega⟩
  · have hw : wrap64 (r - (t.size : Int)) = r - t.size := w64 (by omega) (by omega)
    by_cases h : r - (t.size : Int) < 0
    · exact ⟨-1, Ev.bind hr (Ev.now' fun _ => by rw [if_neg hneg, hw, if_pos h]), by omega, fun _ => rfl, fun h => by omega⟩
    · exact ⟨r - t.size, Ev.bind hr (Ev.now' fun _ => by rw [if_neg hneg, hw, if_neg h]), by omega, by omega, fun _ => ⟨(r3 (by omega)).1, (r3 (by omega)).2, by omega⟩⟩
theorem toBlock_ev (b : Bool) (l : List S151) (t : ByteArray) (hl : l.length ≤ 1048576) : Ev (fun k => laws_toBlock.f k b l t) (b, l.map cvS, t) := by
  unfold laws_toBlock.f
  exact Ev.bind (laws_toSlotS_ev l hl (fun _ _ => trivial)) (Ev.now _)
theorem eqBlock_ev (b : Bool) (l : List S69) (t : ByteArray) (hl : l.length ≤ 1048576) : Ev (fun k => laws_eqBlock.f k b l t b l t) true := by
  unfold laws_eqBlock.f
  simp only [bne_self_eq_false, Bool.false_eq_true, if_false]
  exact Ev.bind (laws_eqSlotS_refl l hl (fun _ _ => trivial)) (Ev.now' fun _ => by simp)

/-- The place of the first slot with this name; -1 for the empty name and without one. -/
def slotF (nm : ByteArray) (l : List S69) : Int := if nm.toList = ([] : List UInt8) then -1 else impl_SlotOf.idx nm l 0
theorem impl_slotof (b : Bool) (l : List S69) (t nm : ByteArray) : Ev (fun _ => impl_SlotOf.f b l t nm) (slotF nm l) := Ev.now' fun _ => by
  unfold impl_SlotOf.f slotF
  split <;> rfl
theorem spec_slotof_loop (b : Bool) (l : List S69) (t nm : ByteArray) (hl : l.length ≤ 1048576) (d : Nat) : ∀ (i : Int), 0 ≤ i → i ≤ l.length → (l.length : Int) - i = d → (¬ nm.toList = ([] : List UInt8) → ∀ j : Nat, (j : Int) < i → ¬ (l.getD j z69).f0.toList = nm.toList) → Ev (fun k => spec_SlotOf.l0 k nm i b l t) (slotF nm l) := by
  induction d with
  | zero =>
    intro i h0 h1 hd hno
    refine Ev.last (fun k => ?_)
    simp only [spec_SlotOf.l0]
    rw [if_neg (by omega)]
    unfold slotF
    by_cases e : nm.toList = ([] : List UInt8)
    · rw [if_pos e]
    · rw [if_neg e, impl_SlotOf.idx_miss nm l 0 (fun j hj => hno e j (by omega))]
  | succ d ih =>
    intro i h0 h1 hd hno
    have hw : wrap64 (i + 1) = i + 1 := w64 (by omega) (by omega)
    have e0 : rd_T69 l i = l.getD i.toNat z69 := rfl
    by_cases e : nm.toList = ([] : List UInt8)
    · refine Ev.step (fun k => ?_) (ih (i + 1) (by omega) (by omega) (by omega) (fun h => absurd e h))
      simp only [spec_SlotOf.l0]
      rw [if_pos (by omega), if_pos e, hw]
    · by_cases hit : (l.getD i.toNat z69).f0.toList = nm.toList
      · refine Ev.last (fun k => ?_)
        simp only [spec_SlotOf.l0, e0]
        rw [if_pos (by omega), if_neg e, if_pos h0, if_pos hit]
        unfold slotF
        rw [if_neg e, impl_SlotOf.idx_hit nm l i.toNat 0 (by omega) hit (fun j hj => hno e j (by omega))]
        congr 1
        omega
      · refine Ev.step (fun k => ?_) (ih (i + 1) (by omega) (by omega) (by omega) (fun h j hj => by
          by_cases ej : j = i.toNat
          · rw [ej]; exact hit
          · exact hno h j (by omega)))
        simp only [spec_SlotOf.l0, e0]
        rw [if_pos (by omega), if_neg e, if_pos h0, if_neg hit, hw]
theorem spec_slotof (b : Bool) (l : List S69) (t nm : ByteArray) (hl : l.length ≤ 1048576) : Ev (fun k => spec_SlotOf.f k b l t nm) (slotF nm l) :=
  spec_slotof_loop b l t nm hl l.length 0 (by omega) (by omega) (by omega) (fun _ j hj => by omega)

theorem FnExactSlotOf : laws_FnExactSlotOf.Pure := by
  intro b l t nm hg hn
  unfold laws_FnExactSlotOf.f
  by_cases hbig : (nm.size : Int) > 1048576
  · exact ⟨0, by rw [if_pos hbig]⟩
  · simp only [if_neg hbig]
    obtain ⟨r, hr, _, _, hlim⟩ := szBlock_ev b l t 1048576 hg (by omega) (by omega)
    refine Ev.rounds (Ev.bind hr ?_)
    by_cases hneg : r < 0
    · exact Ev.now' fun _ => by rw [if_pos hneg]
    · simp only [if_neg hneg]
      obtain ⟨hl, _, _⟩ := hlim (by omega)
      have hl' : (l.map cvS).length ≤ 1048576 := by simpa using hl
      refine Ev.bind (toBlock_ev b l t hl) (Ev.bind (spec_slotof b (l.map cvS) t nm hl') (Ev.bind (toBlock_ev b l t hl) (Ev.bind (impl_slotof b (l.map cvS) t nm) ?_)))
      simp only [bne_self_eq_false, ne_eq, not_true_eq_false, Bool.false_eq_true, if_false, if_true]
      exact Ev.bind (toBlock_ev b l t hl) (Ev.bind (eqBlock_ev b (l.map cvS) t hl') (Ev.now _))
end Go.Proofs.Ytdnbpapolckklaa.Pure
