/- FnExactDeviceOk: for every Device the program's DeviceOk answers what the reference's does, and leaves its argument as it was; no condition. -/
import Derived.Test.YtnnjfjomaeleoaaPFnExactDeviceOkx2
import Derived.Test.YtnnjfjomaeleoaaAid
namespace Go.Proofs.Ytnnjfjomaeleoaa.Pure
open Go.RowKit Go.Proofs.Ytnnjfjomaeleoaa.PFnExactDeviceOk Go.Proofs.YtnnjfjomaeleoaaW.PrintWords Go.Proofs.YtnnjfjomaeleoaaW.PrintLast Go.Proofs.YtnnjfjomaeleoaaW.PrintMore Go.Proofs.Ytnnjfjomaeleoaa.Aid
set_option linter.unusedVariables false
set_option linter.unusedSimpArgs false

theorem szStringS_loop (l : List ByteArray) (hl : l.length ≤ 140737488355328) (hs : ∀ s ∈ l, s.size ≤ 140737488351232) (d : Nat) : ∀ (a i : Int), 0 ≤ a → a ≤ 1048576 → 0 ≤ i → i ≤ l.length → (l.length : Int) - i = d → ∃ r, Ev (fun k => laws_szStringS.l0 k l a i) r ∧ r ≤ a ∧ (r < 0 → r = -1) ∧ (0 ≤ r → ∀ j : Nat, i ≤ j → j < l.length → (l.getD j ByteArray.empty).size ≤ 1048576) := by
  induction d with
  | zero =>
    intro a i a0 a1 h0 h1 hd
    exact ⟨a, Ev.last (fun k => by simp only [laws_szStringS.l0]; rw [if_neg (by omega)]), by omega, by omega, fun _ j j0 j1 => by omega⟩
  | succ d ih =>
    intro a i a0 a1 h0 h1 hd
    have hw : wrap64 (i + 1) = i + 1 := w64 (by omega) (by omega)
    have hsz := hs _ (getD_mem (xs := l) (i := i.toNat) ByteArray.empty (by omega))
    have e : rdOf ByteArray.empty l i = l.getD i.toNat ByteArray.empty := rfl
    have hw2 : wrap64 (a - ((l.getD i.toNat ByteArray.empty).size : Int)) = a - (l.getD i.toNat ByteArray.empty).size := w64 (by omega) (by omega)
    by_cases hneg : a - ((l.getD i.toNat ByteArray.empty).size : Int) < 0
    · exact ⟨-1, Ev.last (fun k => by
        simp only [laws_szStringS.l0, e]
        rw [if_pos (by omega), if_pos h0, hw2, if_pos hneg]), by omega, fun _ => rfl, fun h => by omega⟩
    · obtain ⟨r, hr, h2, h3, h4⟩ := ih (a - ((l.getD i.toNat ByteArray.empty).size : Int)) (i + 1) (by omega) (by omega) (by omega) (by omega) (by omega)
      refine ⟨r, Ev.step (fun k => ?_) hr, by omega, h3, fun hr0 j j0 j1 => ?_⟩
      · simp only [laws_szStringS.l0, e]
        rw [if_pos (by omega), if_pos h0, hw2, if_neg hneg, hw]
      · by_cases ej : j = i.toNat
        · subst ej
          omega
        · exact h4 hr0 j (by omega) j1
theorem szStringS_ev (l : List ByteArray) (a : Int) (hl : l.length ≤ 140737488355328) (hs : ∀ s ∈ l, s.size ≤ 140737488351232) (a0 : 0 ≤ a) (a1 : a ≤ 1048576) : ∃ r, Ev (fun k => laws_szStringS.f k l a) r ∧ r ≤ a ∧ (r < 0 → r = -1) ∧ (0 ≤ r → l.length ≤ 1048576 ∧ ∀ s ∈ l, s.size ≤ 1048576) := by
  have hw : wrap64 (a - (l.length : Int)) = a - l.length := w64 (by omega) (by omega)
  by_cases hneg : a - (l.length : Int) < 0
  · exact ⟨-1, Ev.now' fun k => by unfold laws_szStringS.f; rw [hw, if_pos hneg], by omega, fun _ => rfl, fun h => by omega⟩
  · obtain ⟨r, hr, h2, h3, h4⟩ := szStringS_loop l hl hs l.length (a - l.length) 0 (by omega) (by omega) (by omega) (by omega) (by omega)
    refine ⟨r, Ev.congr (fun k => ?_) hr, by omega, h3, fun hr0 => ⟨by omega, fun s hs => ?_⟩⟩
    · unfold laws_szStringS.f
      rw [hw, if_neg hneg]
    · obtain ⟨j, hj, e⟩ := List.mem_iff_getElem.1 hs
      have := h4 hr0 j (by omega) hj
      rw [List.getD_eq_getElem?_getD, List.getElem?_eq_getElem hj] at this
      rw [← e]
      exact this

theorem laws_toStringS_loop (l : List (ByteArray)) (hl : l.length ≤ 1048576) (d : Nat) : ∀ (y : List (ByteArray)) (i : Int), 0 ≤ i → i ≤ l.length → (l.length : Int) - i = d → y.length = l.length → y.take i.toNat = l.take i.toNat → Ev (fun k => laws_toStringS.l0 k l y i) l := by
  induction d with
  | zero =>
    intro y i h0 h1 hd hy ht
    have e : y = l := take_all hy (by rw [show l.length = i.toNat by omega]; exact ht)
    subst e
    exact Ev.last (fun k => by simp only [laws_toStringS.l0]; rw [if_neg (by omega)])
  | succ d ih =>
    intro y i h0 h1 hd hy ht
    have hw : wrap64 (i + 1) = i + 1 := w64 (by omega) (by omega)
    have hs := set_take l y ByteArray.empty i.toNat (by omega) hy ht
    refine Ev.step (fun k => ?_) (ih (y.set i.toNat (l.getD i.toNat ByteArray.empty)) (i + 1) (by omega) (by omega) (by omega) (by rw [List.length_set]; exact hy) (by rw [toNat_succ h0]; exact hs))
    simp only [laws_toStringS.l0]
    rw [if_pos (by omega), if_pos h0, if_pos (by omega), hw]
    rfl
theorem laws_toStringS_ev (l : List (ByteArray)) (hl : l.length ≤ 1048576) : Ev (fun k => laws_toStringS.f k l) l := by
  have h := laws_toStringS_loop l hl l.length (List.replicate l.length ByteArray.empty) 0 (by omega) (by omega) (by omega) (by simp) (by simp)
  refine Ev.congr (fun k => ?_) h
  unfold laws_toStringS.f
  rw [if_pos (by omega), if_pos (by omega)]
  rfl

theorem laws_eqStringS_loop (l : List (ByteArray)) (hl : l.length ≤ 1048576) (d : Nat) : ∀ (i : Int), 0 ≤ i → i ≤ l.length → (l.length : Int) - i = d → Ev (fun k => laws_eqStringS.l0 k l l i) true := by
  induction d with
  | zero =>
    intro i h0 h1 hd
    exact Ev.last (fun k => by simp only [laws_eqStringS.l0]; rw [if_neg (by omega)])
  | succ d ih =>
    intro i h0 h1 hd
    have hw : wrap64 (i + 1) = i + 1 := w64 (by omega) (by omega)
    refine Ev.step (fun k => ?_) (ih (i + 1) (by omega) (by omega) (by omega))
    simp only [laws_eqStringS.l0]
    rw [if_pos (by omega), if_pos h0, if_pos (by omega), hw]
    simp
theorem laws_eqStringS_refl (l : List (ByteArray)) (hl : l.length ≤ 1048576) : Ev (fun k => laws_eqStringS.f k l l) true := by
  refine Ev.congr (fun k => ?_) (laws_eqStringS_loop l hl l.length 0 (by omega) (by omega) (by omega))
  unfold laws_eqStringS.f
  rw [if_pos rfl]

theorem toDevice_ev (l : List ByteArray) (hl : l.length ≤ 1048576) : Ev (fun k => laws_toDevice.f k l) l := by
  unfold laws_toDevice.f
  exact Ev.bind (laws_toStringS_ev l hl) (Ev.now _)
theorem eqDevice_ev (l : List ByteArray) (hl : l.length ≤ 1048576) : Ev (fun k => laws_eqDevice.f k l l) true := by
  unfold laws_eqDevice.f
  exact Ev.bind (laws_eqStringS_refl l hl) (Ev.now _)
theorem szDevice_ev (l : List ByteArray) (hl : l.length ≤ 140737488355328) (hs : ∀ s ∈ l, s.size ≤ 140737488351232) : ∃ r, Ev (fun k => laws_szDevice.f k l 1048576) r ∧ (0 ≤ r → l.length ≤ 1048576 ∧ ∀ s ∈ l, s.size ≤ 1048576) := by
  obtain ⟨r, hr, h1, h2, h3⟩ := szStringS_ev l 1048576 hl hs (by omega) (by omega)
  by_cases h : r < 0
  · refine ⟨-1, ?_, fun h => by omega⟩
    unfold laws_szDevice.f
    exact Ev.bind hr (Ev.now' fun _ => by rw [if_pos h])
  · refine ⟨r, ?_, h3⟩
    unfold laws_szDevice.f
    exact Ev.bind hr (Ev.now' fun _ => by rw [if_neg h])

theorem deviceok_loops (l : List ByteArray) (hl : l.length ≤ 1048576) (d : Nat) : ∀ (i : Int), 0 ≤ i → i ≤ l.length → (l.length : Int) - i = d → ∃ r, Ev (fun k => spec_DeviceOk.l0 k i l) r ∧ Ev (fun k => impl_DeviceOk.l0 k l (l.length : Int) i l) r ∧ (r = true → l.length = 21 ∧ ∀ j : Nat, i ≤ j → j < l.length → (l.getD j ByteArray.empty).size ≤ 60) := by
  induction d with
  | zero =>
    intro i h0 h1 hd
    refine ⟨((l.length : Int) == 21), Ev.last (fun k => by simp only [spec_DeviceOk.l0]; rw [if_neg (by omega)]), Ev.last (fun k => by simp only [impl_DeviceOk.l0]; rw [if_neg (by omega)]), fun h => ⟨?_, fun j j0 j1 => by omega⟩⟩
    have := beq_iff_eq.1 h
    omega
  | succ d ih =>
    intro i h0 h1 hd
    have hw : wrap64 (i + 1) = i + 1 := w64 (by omega) (by omega)
    have e : rdOf ByteArray.empty l i = l.getD i.toNat ByteArray.empty := rfl
    by_cases hb : ((l.getD i.toNat ByteArray.empty).size : Int) > 60
    · exact ⟨false, Ev.last (fun k => by simp only [spec_DeviceOk.l0, e]; rw [if_pos (by omega), if_pos h0, if_pos hb]), Ev.last (fun k => by simp only [impl_DeviceOk.l0, e]; rw [if_pos (by omega), if_pos h0, if_pos (by omega), if_pos hb]), fun h => by cases h⟩
    · obtain ⟨r, hr1, hr2, hr3⟩ := ih (i + 1) (by omega) (by omega) (by omega)
      refine ⟨r, Ev.step (fun k => by simp only [spec_DeviceOk.l0, e]; rw [if_pos (by omega), if_pos h0, if_neg hb, hw]) hr1, Ev.step (fun k => by simp only [impl_DeviceOk.l0, e]; rw [if_pos (by omega), if_pos h0, if_pos (by omega), if_neg hb, hw]) hr2, fun h => ⟨(hr3 h).1, fun j j0 j1 => ?_⟩⟩
      by_cases ej : j = i.toNat
      · subst ej
        omega
      · exact (hr3 h).2 j (by omega) j1
theorem deviceok_ev (l : List ByteArray) (hl : l.length ≤ 1048576) : ∃ r, Ev (fun k => spec_DeviceOk.f k l) r ∧ Ev (fun k => impl_DeviceOk.f k l) r ∧ (r = true → l.length = 21 ∧ ∀ s ∈ l, s.size ≤ 60) := by
  obtain ⟨r, h1, h2, h3⟩ := deviceok_loops l hl l.length 0 (by omega) (by omega) (by omega)
  refine ⟨r, h1, h2, fun h => ⟨(h3 h).1, fun s hs => ?_⟩⟩
  obtain ⟨j, hj, e⟩ := List.mem_iff_getElem.1 hs
  have := (h3 h).2 j (by omega) hj
  rw [List.getD_eq_getElem?_getD, List.getElem?_eq_getElem hj] at this
  rw [← e]
  exact this

theorem FnExactDeviceOk : laws_FnExactDeviceOk.Pure := by
  intro l hg
  obtain ⟨ha, hs⟩ := hg
  simp only at ha hs
  obtain ⟨r, hr, hlim⟩ := szDevice_ev l (by omega) hs
  unfold laws_FnExactDeviceOk.f
  refine Ev.rounds (Ev.bind hr ?_)
  by_cases hneg : r < 0
  · exact Ev.now' fun _ => by rw [if_pos hneg]
  · simp only [if_neg hneg]
    obtain ⟨hl, _⟩ := hlim (by omega)
    obtain ⟨b, h1, h2, _⟩ := deviceok_ev l hl
    refine Ev.bind (toDevice_ev l hl) (Ev.bind h1 (Ev.bind (toDevice_ev l hl) (Ev.bind h2 ?_)))
    simp only [bne_self_eq_false]
    exact Ev.bind (toDevice_ev l hl) (Ev.bind (eqDevice_ev l hl) (Ev.now _))
end Go.Proofs.Ytnnjfjomaeleoaa.Pure
