/- FnExactWriteUnit: for every Device, unit and text the program's WriteUnit answers what the reference's does, in new memory, and leaves its argument as it was; no condition. -/
import Derived.Test.YtfkjjehkngmgaaaPFnExactWriteUnitx3
import Derived.Test.YtfkjjehkngmgaaaAid
namespace Go.Proofs.Ytfkjjehkngmgaaa.Pure
open Go.RowKit Go.Proofs.Ytfkjjehkngmgaaa.PFnExactWriteUnit Go.Proofs.YtfkjjehkngmgaaaW.PrintWords Go.Proofs.YtfkjjehkngmgaaaW.PrintLast Go.Proofs.YtfkjjehkngmgaaaW.PrintMore Go.Proofs.Ytfkjjehkngmgaaa.Aid
set_option linter.unusedVariables false
set_option linter.unusedSimpArgs false

theorem szStringS_loop (l : List ByteArray) (hl : l.length ≤ 140737488355328) (hs : ∀ s ∈ l, s.size ≤ 140737488351232) (d : Nat) : ∀ (a i : Int), 0 ≤ a → a ≤ 1048576 → 0 ≤ i → i ≤ l.length → (l.length : Int) - i = d → ∃ r, Ev (fun k => laws_szStringS.l0 k l a i) r ∧ r ≤ a ∧ (r < 0 → r = -1) ∧ (0 ≤ r → ∀ j : Nat, i ≤ j → j < l.length → (l.getD j ByteArray.empty).size ≤ 1048576) := by
  induction d with
  | zero =>
    intro a i a0 a1 h0 h1 hd
    exact ⟨a, Ev.last (fun k => by simp only [laws_szStringS.l0]; rw [if_neg (by omega)]), by omega, by omega, fun _ j j0 j1 => by omega⟩
  | succ d ih =>
    intro a i a0 a1 h0 h1 hd
    have hw : wrap64 (i + 1) = i + 1 := w64 (by omega) (by omega)
    have hsz := hs _ (getD_mem (xs := l) (i := i.toNat) ByteArray.empty (by omega))
    have e : rdOf ByteArray.empty l i = l.getD i.toNat ByteArray.empty := rfl
    have hw2 : wrap64 (a - ((l.getD i.toNat ByteArray.empty).size : Int)) = a - (l.getD i.toNat ByteArray.empty).size := w64 (by omega) (by omega)
    by_cases hneg : a - ((l.getD i.toNat ByteArray.empty).size : Int) < 0
    · exact ⟨-1, Ev.last (fun k => by
        simp only [laws_szStringS.l0, e]
        rw [if_pos (by omega), if_pos h0, hw2, if_pos hneg]), by omega, fun _ => rfl, fun h => by omega⟩
    · obtain ⟨r, hr, h2, h3, h4⟩ := ih (a - ((l.getD i.toNat ByteArray.empty).size : Int)) (i + 1) (by omega) (by omega) (by omega) (by omega) (by omega)
      refine ⟨r, Ev.step (fun k => ?_) hr, by omega, h3, fun hr0 j j0 j1 => ?_⟩
      · simp only [laws_szStringS.l0, e]
        rw [if_pos (by omega), if_pos h0, hw2, if_neg hneg, hw]
      · by_cases ej : j = i.toNat
        · subst ej
          omega
        · exact h4 hr0 j (by omega) j1
theorem szStringS_ev (l : List ByteArray) (a : Int) (hl : l.length ≤ 140737488355328) (hs : ∀ s ∈ l, s.size ≤ 140737488351232) (a0 : 0 ≤ a) (a1 : a ≤ 1048576) : ∃ r, Ev (fun k => laws_szStringS.f k l a) r ∧ r ≤ a ∧ (r < 0 → r = -1) ∧ (0 ≤ r → l.length ≤ 1048576 ∧ ∀ s ∈ l, s.size ≤ 1048576) := by
  have hw : wrap64 (a - (l.length : Int)) = a - l.length := w64 (by omega) (by omega)
  by_cases hneg : a - (l.length : Int) < 0
  · exact ⟨-1, Ev.now' fun k => by unfold laws_szStringS.f; rw [hw, if_pos hneg], by omega, fun _ => rfl, fun h => by omega⟩
  · obtain ⟨r, hr, h2, h3, h4⟩ := szStringS_loop l hl hs l.length (a - l.length) 0 (by omega) (by omega) (by omega) (by omega) (by omega)
    refine ⟨r, Ev.congr (fun k => ?_) hr, by omega, h3, fun hr0 => ⟨by omega, fun s hs => ?_⟩⟩
    · unfold laws_szStringS.f
      rw [hw, if_neg hneg]
    · obtain ⟨j, hj, e⟩ := List.mem_iff_getElem.1 hs
      have := h4 hr0 j (by omega) hj
      rw [List.getD_eq_getElem?_getD, List.getElem?_eq_getElem hj] at this
      rw [← e]
      exact this

theorem laws_toStringS_loop (l : List (ByteArray)) (hl : l.length ≤ 1048576) (d : Nat) : ∀ (y : List (ByteArray)) (i : Int), 0 ≤ i → i ≤ l.length → (l.length : Int) - i = d → y.length = l.length → y.take i.toNat = l.take i.toNat → Ev (fun k => laws_toStringS.l0 k l y i) l := by
  induction d with
  | zero =>
    intro y i h0 h1 hd hy ht
    have e : y = l := take_all hy (by rw [show l.length = i.toNat by omega]; exact ht)
    subst e
    exact Ev.last (fun k => by simp only [laws_toStringS.l0]; rw [if_neg (by omega)])
  | succ d ih =>
    intro y i h0 h1 hd hy ht
    have hw : wrap64 (i + 1) = i + 1 := w64 (by omega) (by omega)
    have hs := set_take l y ByteArray.empty i.toNat (by omega) hy ht
    refine Ev.step (fun k => ?_) (ih (y.set i.toNat (l.getD i.toNat ByteArray.empty)) (i + 1) (by omega) (by omega) (by omega) (by rw [List.length_set]; exact hy) (by rw [toNat_succ h0]; exact hs))
    simp only [laws_toStringS.l0]
    rw [if_pos (by omega), if_pos h0, if_pos (by omega), hw]
    rfl
theorem laws_toStringS_ev (l : List (ByteArray)) (hl : l.length ≤ 1048576) : Ev (fun k => laws_toStringS.f k l) l := by
  have h := laws_toStringS_loop l hl l.length (List.replicate l.length ByteArray.empty) 0 (by omega) (by omega) (by omega) (by simp) (by simp)
  refine Ev.congr (fun k => ?_) h
  unfold laws_toStringS.f
  rw [if_pos (by omega), if_pos (by omega)]
  rfl

theorem laws_eqStringS_loop (l : List (ByteArray)) (hl : l.length ≤ 1048576) (d : Nat) : ∀ (i : Int), 0 ≤ i → i ≤ l.length → (l.length : Int) - i = d → Ev (fun k => laws_eqStringS.l0 k l l i) true := by
  induction d with
  | zero =>
    intro i h0 h1 hd
    exact Ev.last (fun k => by simp only [laws_eqStringS.l0]; rw [if_neg (by omega)])
  | succ d ih =>
    intro i h0 h1 hd
    have hw : wrap64 (i + 1) = i + 1 := w64 (by omega) (by omega)
    refine Ev.step (fun k => ?_) (ih (i + 1) (by omega) (by omega) (by omega))
    simp only [laws_eqStringS.l0]
    rw [if_pos (by omega), if_pos h0, if_pos (by omega), hw]
    simp
theorem laws_eqStringS_refl (l : List (ByteArray)) (hl : l.length ≤ 1048576) : Ev (fun k => laws_eqStringS.f k l l) true := by
  refine Ev.congr (fun k => ?_) (laws_eqStringS_loop l hl l.length 0 (by omega) (by omega) (by omega))
  unfold laws_eqStringS.f
  rw [if_pos rfl]

theorem toDevice_ev (l : List ByteArray) (hl : l.length ≤ 1048576) : Ev (fun k => laws_toDevice.f k l) l := by
  unfold laws_toDevice.f
  exact Ev.bind (laws_toStringS_ev l hl) (Ev.now _)
theorem eqDevice_ev (l : List ByteArray) (hl : l.length ≤ 1048576) : Ev (fun k => laws_eqDevice.f k l l) true := by
  unfold laws_eqDevice.f
  exact Ev.bind (laws_eqStringS_refl l hl) (Ev.now _)
theorem szDevice_ev (l : List ByteArray) (hl : l.length ≤ 140737488355328) (hs : ∀ s ∈ l, s.size ≤ 140737488351232) : ∃ r, Ev (fun k => laws_szDevice.f k l 1048576) r ∧ (0 ≤ r → l.length ≤ 1048576 ∧ ∀ s ∈ l, s.size ≤ 1048576) := by
  obtain ⟨r, hr, h1, h2, h3⟩ := szStringS_ev l 1048576 hl hs (by omega) (by omega)
  by_cases h : r < 0
  · refine ⟨-1, ?_, fun h => by omega⟩
    unfold laws_szDevice.f
    exact Ev.bind hr (Ev.now' fun _ => by rw [if_pos h])
  · refine ⟨r, ?_, h3⟩
    unfold laws_szDevice.f
    exact Ev.bind hr (Ev.now' fun _ => by rw [if_neg h])

theorem deviceok_loops (l : List ByteArray) (hl : l.length ≤ 1048576) (d : Nat) : ∀ (i : Int), 0 ≤ i → i ≤ l.length → (l.length : Int) - i = d → ∃ r, Ev (fun k => spec_DeviceOk.l0 k i l) r ∧ Ev (fun k => impl_DeviceOk.l0 k l (l.length : Int) i l) r ∧ (r = true → l.length = 21 ∧ ∀ j : Nat, i ≤ j → j < l.length → (l.getD j ByteArray.empty).size ≤ 60) := by
  induction d with
  | zero =>
    intro i h0 h1 hd
    refine ⟨((l.length : Int) == 21), Ev.last (fun k => by simp only [spec_DeviceOk.l0]; rw [if_neg (by omega)]), Ev.last (fun k => by simp only [impl_DeviceOk.l0]; rw [if_neg (by omega)]), fun h => ⟨?_, fun j j0 j1 => by omega⟩⟩
    have := beq_iff_eq.1 h
    omega
  | succ d ih =>
    intro i h0 h1 hd
    have hw : wrap64 (i + 1) = i + 1 := w64 (by omega) (by omega)
    have e : rdOf ByteArray.empty l i = l.getD i.toNat ByteArray.empty := rfl
    by_cases hb : ((l.getD i.toNat ByteArray.empty).size : Int) > 60
    · exact ⟨false, Ev.last (fun k => by simp only [spec_DeviceOk.l0, e]; rw [if_pos (by omega), if_pos h0, if_pos hb]), Ev.last (fun k => by simp only [impl_DeviceOk.l0, e]; rw [if_pos (by omega), if_pos h0, if_pos (by omega), if_pos hb]), fun h => by cases h⟩
    · obtain ⟨r, hr1, hr2, hr3⟩ := ih (i + 1) (by omega) (by omega) (by omega)
      refine ⟨r, Ev.step (fun k => by simp only [spec_DeviceOk.l0, e]; rw [if_pos (by omega), if_pos h0, if_neg hb, hw]) hr1, Ev.step (fun k => by simp only [impl_DeviceOk.l0, e]; rw [if_pos (by omega), if_pos h0, if_pos (by omega), if_neg hb, hw]) hr2, fun h => ⟨(hr3 h).1, fun j j0 j1 => ?_⟩⟩
      by_cases ej : j = i.toNat
      · subst ej
        omega
      · exact (hr3 h).2 j (by omega) j1
theorem deviceok_ev (l : List ByteArray) (hl : l.length ≤ 1048576) : ∃ r, Ev (fun k => spec_DeviceOk.f k l) r ∧ Ev (fun k => impl_DeviceOk.f k l) r ∧ (r = true → l.length = 21 ∧ ∀ s ∈ l, s.size ≤ 60) := by
  obtain ⟨r, h1, h2, h3⟩ := deviceok_loops l hl l.length 0 (by omega) (by omega) (by omega)
  refine ⟨r, h1, h2, fun h => ⟨(h3 h).1, fun s hs => ?_⟩⟩
  obtain ⟨j, hj, e⟩ := List.mem_iff_getElem.1 hs
  have := (h3 h).2 j (by omega) hj
  rw [List.getD_eq_getElem?_getD, List.getElem?_eq_getElem hj] at this
  rw [← e]
  exact this

theorem marktext_loop (d : Nat) : ∀ (x : Int) (s : ByteArray), x < d → 0 ≤ x → s.size + d ≤ 4000000000 → ∃ t, Ev (fun k => laws_markText.l0 k x s) t := by
  induction d with
  | zero => intro x s h h0; omega
  | succ d ih =>
    intro x s h h0 hs
    by_cases hx : x > 0
    · obtain ⟨t, ht⟩ := ih (x / 10) (strOfNums [(wrap64 (48 + (Int.tmod x 10))) % 256] ++ s) (by omega) (by omega) (by rw [ByteArray.size_append, strOfNums_size]; simp; omega)
      refine ⟨t, Ev.step (fun k => ?_) ht⟩
      simp only [laws_markText.l0, Option.bind_some]
      rw [if_pos hx, if_pos (by rw [strOfNums_size]; simp; omega), tdiv_nn h0, w64 (by omega) (by omega)]
    · exact ⟨_, Ev.last (fun k => by simp only [laws_markText.l0]; rw [if_neg hx, if_pos (by omega)])⟩
theorem marktext_some (m : Int) (m1 : m ≤ 1100000000) : ∃ t, Ev (fun k => laws_markText.f k m) t := by
  unfold laws_markText.f
  by_cases h : m ≤ 0
  · exact ⟨_, Ev.now' fun k => by rw [if_pos h]⟩
  · obtain ⟨t, ht⟩ := marktext_loop (m.toNat + 1) m ⟨#[]⟩ (by omega) (by omega) (by simp [ByteArray.size]; omega)
    exact ⟨t, Ev.congr (fun k => by rw [if_neg h]) ht⟩
/-- The text of a mark. -/
noncomputable def mt (m : Int) : ByteArray := @Classical.epsilon ByteArray ⟨⟨#[]⟩⟩ (fun t => Ev (fun k => laws_markText.f k m) t)
theorem mt_ev (m : Int) (m1 : m ≤ 1100000000) : Ev (fun k => laws_markText.f k m) (mt m) := Classical.epsilon_spec (marktext_some m m1)

noncomputable def sm (m : Int) (n : Nat) : List ByteArray := (List.range n).map fun j : Nat => mt (m + (j : Int))
theorem sm_length (m : Int) (n : Nat) : (sm m n).length = n := by simp [sm]
theorem sm_at (m : Int) (n i : Nat) (h : i < n) (d : ByteArray) : (sm m n).getD i d = mt (m + (i : Int)) := by
  unfold sm
  rw [List.getD_eq_getElem?_getD, List.getElem?_map, List.getElem?_range h]
  rfl
theorem markS_loop (m : Int) (n : Nat) (hn : n ≤ 1048576) (m0 : 0 ≤ m) (m1 : m ≤ 1000000000) (d : Nat) : ∀ (x : List ByteArray) (i : Nat), x.length = n → i ≤ n → n - i = d → x.take i = (sm m n).take i → Ev (fun k => laws_markStringS.l0 k x (m + i) (i : Int)) (m + n, sm m n) := by
  induction d with
  | zero =>
    intro x i hx hi hd ht
    obtain rfl : i = n := by omega
    have e : x = sm m i := take_all (by rw [hx, sm_length]) (by rw [sm_length]; exact ht)
    subst e
    exact Ev.last (fun k => by simp only [laws_markStringS.l0]; rw [if_neg (by omega)])
  | succ d ih =>
    intro x i hx hi hd ht
    have hs := set_take (sm m n) x ByteArray.empty i (by rw [sm_length]; omega) (by rw [hx, sm_length]) ht
    rw [sm_at m n i (by omega)] at hs
    refine Ev.step (f := fun k => (laws_markText.f k (m + i)).bind fun t => laws_markStringS.l0 k (x.set i t) (m + ((i + 1 : Nat) : Int)) ((i + 1 : Nat) : Int)) (fun k => ?_) (Ev.bind (mt_ev (m + (i : Int)) (by omega)) (ih (x.set i (mt (m + (i : Int)))) (i + 1) (by rw [List.length_set]; exact hx) (by omega) (by omega) hs))
    simp only [laws_markStringS.l0]
    rw [if_pos (by omega), w64 (x := m + i + 1) (by omega) (by omega), w64 (x := (i : Int) + 1) (by omega) (by omega), Int.toNat_natCast, show m + (i : Int) + 1 = m + ((i + 1 : Nat) : Int) by omega, show (i : Int) + 1 = ((i + 1 : Nat) : Int) by omega]
    simp only [if_pos (show (0 : Int) ≤ (i : Int) by omega)]
theorem markS_ev (l : List ByteArray) (m : Int) (hn : l.length ≤ 1048576) (m0 : 0 ≤ m) (m1 : m ≤ 1000000000) : Ev (fun k => laws_markStringS.f k l m) (m + l.length, sm m l.length) := by
  have h := markS_loop m l.length hn m0 m1 l.length l 0 rfl (by omega) (by omega) (by simp)
  refine Ev.congr (fun k => ?_) h
  unfold laws_markStringS.f
  simp
theorem heldS_loop (m : Int) (n : Nat) (hn : n ≤ 1048576) (m0 : 0 ≤ m) (m1 : m ≤ 1000000000) (d : Nat) : ∀ (i : Nat), i ≤ n → n - i = d → Ev (fun k => laws_heldStringS.l0 k (sm m n) (m + i) (i : Int)) (m + n) := by
  induction d with
  | zero =>
    intro i hi hd
    obtain rfl : i = n := by omega
    exact Ev.last (fun k => by simp only [laws_heldStringS.l0, sm_length]; rw [if_neg (by omega)])
  | succ d ih =>
    intro i hi hd
    have e : rdOf ByteArray.empty (sm m n) (i : Int) = mt (m + (i : Int)) := sm_at m n i (by omega) _
    refine Ev.step (f := fun k => (laws_markText.f k (m + i)).bind fun t => if (mt (m + (i : Int))).toList = t.toList then laws_heldStringS.l0 k (sm m n) (m + ((i + 1 : Nat) : Int)) ((i + 1 : Nat) : Int) else some (-1)) (fun k => ?_) ?_
    · simp only [laws_heldStringS.l0, sm_length, e]
      rw [if_pos (by omega), if_pos (by omega), w64 (x := m + i + 1) (by omega) (by omega), w64 (x := (i : Int) + 1) (by omega) (by omega), show m + (i : Int) + 1 = m + ((i + 1 : Nat) : Int) by omega, show (i : Int) + 1 = ((i + 1 : Nat) : Int) by omega]
    · refine Ev.bind (mt_ev (m + (i : Int)) (by omega)) ?_
      simp only [if_true]
      exact ih (i + 1) (by omega) (by omega)
theorem heldS_ev (m : Int) (n : Nat) (hn : n ≤ 1048576) (m0 : 0 ≤ m) (m1 : m ≤ 1000000000) : Ev (fun k => laws_heldStringS.f k (sm m n) m) (m + n) := by
  have h := heldS_loop m n hn m0 m1 n 0 (by omega) (by omega)
  refine Ev.congr (fun k => ?_) h
  unfold laws_heldStringS.f
  simp

theorem markDevice_ev (l : List ByteArray) (hn : l.length ≤ 1048576) : Ev (fun k => laws_markDevice.f k l 1) (1 + l.length, sm 1 l.length) := by
  unfold laws_markDevice.f
  exact Ev.bind (markS_ev l 1 hn (by omega) (by omega)) (Ev.now _)
theorem heldDevice_ev (n : Nat) (hn : n ≤ 1048576) : Ev (fun k => laws_heldDevice.f k (sm 1 n) 1) (1 + n) := by
  unfold laws_heldDevice.f
  exact Ev.bind (heldS_ev 1 n hn (by omega) (by omega)) (Ev.now' fun _ => by rw [if_neg (by omega)])

theorem in_eq (a b c : Int) : spec_l01In.f a b c = some (decide (b ≤ a ∧ a ≤ c)) := by
  unfold spec_l01In.f
  by_cases h : a ≥ b
  · rw [if_pos h]
    simp [show b ≤ a from h]
  · rw [if_neg h]
    simp [show ¬ b ≤ a from h]

theorem within_eq (a b c : Int) : impl_within.f a b c = some (decide (b ≤ a ∧ a ≤ c)) := by
  unfold impl_within.f
  by_cases h : a ≥ b
  · rw [if_pos h]
    simp [show b ≤ a from h]
  · rw [if_neg h]
    simp [show ¬ b ≤ a from h]

theorem writeunit_ev (l : List ByteArray) (u : Int) (s : ByteArray) (hl : l.length ≤ 1048576) : ∃ r : List ByteArray × Bool, Ev (fun k => spec_WriteUnit.f k l u s) r ∧ Ev (fun k => impl_WriteUnit.f k l u s) r ∧ r.1.length = l.length := by
  obtain ⟨b, h1, h2, h3⟩ := deviceok_ev l hl
  have hcopy : impl_copyDevice.f l = some l := by
    unfold impl_copyDevice.f
    simp only [Option.bind_some, List.nil_append]
    rw [if_pos (by simp; omega)]
  have hsp : ∀ k, spec_WriteUnit.f k l u s = (spec_DeviceOk.f k l).bind fun t => if t = true then (spec_l01In.f u 0 20).bind fun t2 => if t2 = true then (if (s.size : Int) > 60 then some (l, false) else if 0 ≤ u then (if u < (l.length : Int) then some (l.set u.toNat s, true) else none) else none) else some (l, false) else some (l, false) := fun k => by
    unfold spec_WriteUnit.f
    simp only [Option.bind_some, List.nil_append]
    rw [if_pos (by simp; omega)]
  have him : ∀ k, impl_WriteUnit.f k l u s = (impl_DeviceOk.f k l).bind fun t => if t = true then (impl_isUnit.f u).bind fun t2 => if t2 = true then (if (s.size : Int) > 60 then some (l, false) else if 0 ≤ u then (if u < (l.length : Int) then some (l.set u.toNat s, true) else none) else none) else some (l, false) else some (l, false) := fun k => by
    unfold impl_WriteUnit.f
    simp only [hcopy, Option.bind_some]
  have hun : impl_isUnit.f u = some (decide (0 ≤ u ∧ u ≤ 20)) := by
    unfold impl_isUnit.f
    rw [within_eq]
    simp
  cases b with
  | false => exact ⟨(l, false), Ev.congr hsp (Ev.bind h1 (Ev.now' fun _ => rfl)), Ev.congr him (Ev.bind h2 (Ev.now' fun _ => rfl)), rfl⟩
  | true =>
    obtain ⟨h21, _⟩ := h3 rfl
    by_cases hu : 0 ≤ u ∧ u ≤ 20
    · by_cases hs : (s.size : Int) > 60
      · refine ⟨(l, false), Ev.congr hsp (Ev.bind h1 (Ev.now' fun _ => ?_)), Ev.congr him (Ev.bind h2 (Ev.now' fun _ => ?_)), rfl⟩
        · simp only [if_true, in_eq, decide_eq_true hu, Option.bind_some, if_pos hs]
        · simp only [if_true, hun, decide_eq_true hu, Option.bind_some, if_pos hs]
      · refine ⟨(l.set u.toNat s, true), Ev.congr hsp (Ev.bind h1 (Ev.now' fun _ => ?_)), Ev.congr him (Ev.bind h2 (Ev.now' fun _ => ?_)), by simp⟩
        · simp only [if_true, in_eq, decide_eq_true hu, Option.bind_some, if_neg hs, if_pos hu.1]
          rw [if_pos (by omega)]
        · simp only [if_true, hun, decide_eq_true hu, Option.bind_some, if_neg hs, if_pos hu.1]
          rw [if_pos (by omega)]
    · refine ⟨(l, false), Ev.congr hsp (Ev.bind h1 (Ev.now' fun _ => ?_)), Ev.congr him (Ev.bind h2 (Ev.now' fun _ => ?_)), rfl⟩
      · simp only [if_true, in_eq, decide_eq_false hu, Option.bind_some]
        rfl
      · simp only [if_true, hun, decide_eq_false hu, Option.bind_some]
        rfl
theorem FnExactWriteUnit : laws_FnExactWriteUnit.Pure := by
  intro l u s hg _ hs
  obtain ⟨ha, hss⟩ := hg
  simp only at ha hss
  unfold laws_FnExactWriteUnit.f
  by_cases h : (s.size : Int) > 1048576
  · exact ⟨0, by rw [if_pos h]⟩
  · simp only [if_neg h]
    obtain ⟨r, hr, hlim⟩ := szDevice_ev l (by omega) hss
    refine Ev.rounds (Ev.bind hr ?_)
    by_cases hneg : r < 0
    · exact Ev.now' fun _ => by rw [if_pos hneg]
    · simp only [if_neg hneg]
      obtain ⟨hl, _⟩ := hlim (by omega)
      obtain ⟨⟨y, ok⟩, e1, e2, hy⟩ := writeunit_ev l u s hl
      simp only at hy
      have hyl : y.length ≤ 1048576 := by omega
      have t0 := toDevice_ev l hl
      have q0 := eqDevice_ev l hl
      have qy := eqDevice_ev y hyl
      have m0 := markDevice_ev l hl
      have my := markDevice_ev y hyl
      have hd := heldDevice_ev y.length hyl
      refine Ev.bind t0 (Ev.bind e1 (Ev.bind t0 (Ev.bind e2 (Ev.bind qy ?_))))
      simp only [if_true, bne_self_eq_false]
      refine Ev.step (f := fun k => (laws_toDevice.f k l).bind fun t => (laws_eqDevice.f k l t).bind fun t2 => if t2 = true then (laws_markDevice.f k l 1).bind fun b => if b.1 < 0 then laws_FnExactWriteUnit.j1 k u s ok true l y y else (laws_eqDevice.f k y y).bind fun t3 => if t3 = true then laws_FnExactWriteUnit.j1 k u s ok (ok != ok) l y y else laws_FnExactWriteUnit.j1 k u s ok true l y y else some false) (fun k => by simp only [laws_FnExactWriteUnit.j0]; rfl) ?_
      refine Ev.bind t0 (Ev.bind q0 ?_)
      simp only [if_true]
      refine Ev.bind m0 ?_
      simp only [if_neg (show ¬ (1 + (l.length : Int)) < 0 by omega)]
      refine Ev.bind qy ?_
      simp only [if_true, bne_self_eq_false]
      refine Ev.step (f := fun k => (laws_markDevice.f k y 1).bind fun b => (laws_heldDevice.f k b.2 1).bind fun t => if t < 0 then some false else if t = b.1 then (laws_toDevice.f k l).bind fun t2 => (impl_WriteUnit.f k t2 u s).bind fun c => (laws_eqDevice.f k c.1 y).bind fun t3 => if t3 = true then laws_FnExactWriteUnit.j2 k b.1 (c.2 != ok) b.2 else laws_FnExactWriteUnit.j2 k b.1 true b.2 else some false) (fun k => by simp only [laws_FnExactWriteUnit.j1]; rfl) ?_
      refine Ev.bind my (Ev.bind hd ?_)
      simp only [if_neg (show ¬ (1 + (y.length : Int)) < 0 by omega), if_true]
      refine Ev.bind t0 (Ev.bind e2 (Ev.bind qy ?_))
      simp only [if_true, bne_self_eq_false]
      refine Ev.step (f := fun k => (laws_heldDevice.f k (sm 1 y.length) 1).bind fun t => if t < 0 then some false else if t = 1 + (y.length : Int) then some true else some false) (fun k => by simp only [laws_FnExactWriteUnit.j2]; rfl) ?_
      refine Ev.bind hd (Ev.now' fun _ => ?_)
      rw [if_neg (by omega), if_pos rfl]
end Go.Proofs.Ytfkjjehkngmgaaa.Pure
