/- FnExactDiskOf: what the law's functions answer at every Device: both DiskOfs the same disk, and the marks end and are held. No condition. (The law's own walk is by hand: the Walk text.) -/
import Derived.Test.YtdnbpapolckklaaPFnExactDiskOfx23
import Derived.Test.YtdnbpapolckklaaAid
import Derived.Test.YtdnbpapolckklaaMarksFnExactDiskOf
namespace Go.Proofs.Ytdnbpapolckklaa.Pure
open Go.RowKit Go.Proofs.Ytdnbpapolckklaa.PFnExactDiskOf Go.Proofs.YtdnbpapolckklaaW.PrintWords Go.Proofs.YtdnbpapolckklaaW.PrintLast Go.Proofs.YtdnbpapolckklaaW.PrintMore Go.Proofs.Ytdnbpapolckklaa.Aid
set_option linter.unusedVariables false
set_option linter.unusedSimpArgs false

theorem szStringS_loop (l : List ByteArray) (hl : l.length ≤ 140737488355328) (hs : ∀ s ∈ l, s.size ≤ 140737488351232) (d : Nat) : ∀ (a i : Int), 0 ≤ a → a ≤ 1048576 → 0 ≤ i → i ≤ l.length → (l.length : Int) - i = d → ∃ r, Ev (fun k => laws_szStringS.l0 k l a i) r ∧ r ≤ a ∧ (r < 0 → r = -1) ∧ (0 ≤ r → ∀ j : Nat, i ≤ j → j < l.length → (l.getD j ByteArray.empty).size ≤ 1048576) := by
  induction d with
  | zero =>
    intro a i a0 a1 h0 h1 hd
    exact ⟨a, Ev.last (fun k => by simp only [laws_szStringS.l0]; rw [if_neg (by omega)]), by omega, by omega, fun _ j j0 j1 => by omega⟩
  | succ d ih =>
    intro a i a0 a1 h0 h1 hd
    have hw : wrap64 (i + 1) = i + 1 := w64 (by omega) (by omega)
    have hsz := hs _ (getD_mem (xs := l) (i := i.toNat) ByteArray.empty (by omega))
    have e : rdOf ByteArray.empty l i = l.getD i.toNat ByteArray.empty := rfl
    have hw2 : wrap64 (a - ((l.getD i.toNat ByteArray.empty).size : Int)) = a - (l.getD i.toNat ByteArray.empty).size := w64 (by omega) (by omega)
    by_cases hneg : a - ((l.getD i.toNat ByteArray.empty).size : Int) < 0
    · exact ⟨-1, Ev.last (fun k => by
        simp only [laws_szStringS.l0, e]
        rw [if_pos (by omega), if_pos h0, hw2, if_pos hneg]), by omega, fun _ => rfl, fun h => by omega⟩
    · obtain ⟨r, hr, h2, h3, h4⟩ := ih (a - ((l.getD i.toNat ByteArray.empty).size : Int)) (i + 1) (by omega) (by omega) (by omega) (by omega) (by omega)
      refine ⟨r, Ev.step (fun k => ?_) hr, by omega, h3, fun hr0 j j0 j1 => ?_⟩
      · simp only [laws_szStringS.l0, e]
        rw [if_pos (by omega), if_pos h0, hw2, if_neg hneg, hw]
      · by_cases ej : j = i.toNat
        · subst ej
          omega
        · exact h4 hr0 j (by omega) j1
theorem szStringS_ev (l : List ByteArray) (a : Int) (hl : l.length ≤ 140737488355328) (hs : ∀ s ∈ l, s.size ≤ 140737488351232) (a0 : 0 ≤ a) (a1 : a ≤ 1048576) : ∃ r, Ev (fun k => laws_szStringS.f k l a) r ∧ r ≤ a ∧ (r < 0 → r = -1) ∧ (0 ≤ r → l.length ≤ 1048576 ∧ ∀ s ∈ l, s.size ≤ 1048576) := by
  have hw : wrap64 (a - (l.length : Int)) = a - l.length := w64 (by omega) (by omega)
  by_cases hneg : a - (l.length : Int) < 0
  · exact ⟨-1, Ev.now' fun k => by unfold laws_szStringS.f; rw [hw, if_pos hneg], by omega, fun _ => rfl, fun h => by omega⟩
  · obtain ⟨r, hr, h2, h3, h4⟩ := szStringS_loop l hl hs l.length (a - l.length) 0 (by omega) (by omega) (by omega) (by omega) (by omega)
    refine ⟨r, Ev.congr (fun k => ?_) hr, by omega, h3, fun hr0 => ⟨by omega, fun s hs => ?_⟩⟩
    · unfold laws_szStringS.f
      rw [hw, if_neg hneg]
    · obtain ⟨j, hj, e⟩ := List.mem_iff_getElem.1 hs
      have := h4 hr0 j (by omega) hj
      rw [List.getD_eq_getElem?_getD, List.getElem?_eq_getElem hj] at this
      rw [← e]
      exact this

theorem laws_toStringS_loop (l : List (ByteArray)) (hl : l.length ≤ 1048576) (d : Nat) : ∀ (y : List (ByteArray)) (i : Int), 0 ≤ i → i ≤ l.length → (l.length : Int) - i = d → y.length = l.length → y.take i.toNat = l.take i.toNat → Ev (fun k => laws_toStringS.l0 k l y i) l := by
  induction d with
  | zero =>
    intro y i h0 h1 hd hy ht
    have e : y = l := take_all hy (by rw [show l.length = i.toNat by omega]; exact ht)
    subst e
    exact Ev.last (fun k => by simp only [laws_toStringS.l0]; rw [if_neg (by omega)])
  | succ d ih =>
    intro y i h0 h1 hd hy ht
    have hw : wrap64 (i + 1) = i + 1 := w64 (by omega) (by omega)
    have hs := set_take l y ByteArray.empty i.toNat (by omega) hy ht
    refine Ev.step (fun k => ?_) (ih (y.set i.toNat (l.getD i.toNat ByteArray.empty)) (i + 1) (by omega) (by omega) (by omega) (by rw [List.length_set]; exact hy) (by rw [toNat_succ h0]; exact hs))
    simp only [laws_toStringS.l0]
    rw [if_pos (by omega), if_pos h0, if_pos (by omega), hw]
    rfl
theorem laws_toStringS_ev (l : List (ByteArray)) (hl : l.length ≤ 1048576) : Ev (fun k => laws_toStringS.f k l) l := by
  have h := laws_toStringS_loop l hl l.length (List.replicate l.length ByteArray.empty) 0 (by omega) (by omega) (by omega) (by simp) (by simp)
  refine Ev.congr (fun k => ?_) h
  unfold laws_toStringS.f
  rw [if_pos (by omega), if_pos (by omega)]
  rfl

theorem laws_eqStringS_loop (l : List (ByteArray)) (hl : l.length ≤ 1048576) (d : Nat) : ∀ (i : Int), 0 ≤ i → i ≤ l.length → (l.length : Int) - i = d → Ev (fun k => laws_eqStringS.l0 k l l i) true := by
  induction d with
  | zero =>
    intro i h0 h1 hd
    exact Ev.last (fun k => by simp only [laws_eqStringS.l0]; rw [if_neg (by omega)])
  | succ d ih =>
    intro i h0 h1 hd
    have hw : wrap64 (i + 1) = i + 1 := w64 (by omega) (by omega)
    refine Ev.step (fun k => ?_) (ih (i + 1) (by omega) (by omega) (by omega))
    simp only [laws_eqStringS.l0]
    rw [if_pos (by omega), if_pos h0, if_pos (by omega), hw]
    simp
theorem laws_eqStringS_refl (l : List (ByteArray)) (hl : l.length ≤ 1048576) : Ev (fun k => laws_eqStringS.f k l l) true := by
  refine Ev.congr (fun k => ?_) (laws_eqStringS_loop l hl l.length 0 (by omega) (by omega) (by omega))
  unfold laws_eqStringS.f
  rw [if_pos rfl]

theorem toDevice_ev (l : List ByteArray) (hl : l.length ≤ 1048576) : Ev (fun k => laws_toDevice.f k l) l := by
  unfold laws_toDevice.f
  exact Ev.bind (laws_toStringS_ev l hl) (Ev.now _)
theorem eqDevice_ev (l : List ByteArray) (hl : l.length ≤ 1048576) : Ev (fun k => laws_eqDevice.f k l l) true := by
  unfold laws_eqDevice.f
  exact Ev.bind (laws_eqStringS_refl l hl) (Ev.now _)
theorem szDevice_ev (l : List ByteArray) (hl : l.length ≤ 140737488355328) (hs : ∀ s ∈ l, s.size ≤ 140737488351232) : ∃ r, Ev (fun k => laws_szDevice.f k l 1048576) r ∧ (0 ≤ r → l.length ≤ 1048576 ∧ ∀ s ∈ l, s.size ≤ 1048576) := by
  obtain ⟨r, hr, h1, h2, h3⟩ := szStringS_ev l 1048576 hl hs (by omega) (by omega)
  by_cases h : r < 0
  · refine ⟨-1, ?_, fun h => by omega⟩
    unfold laws_szDevice.f
    exact Ev.bind hr (Ev.now' fun _ => by rw [if_pos h])
  · refine ⟨r, ?_, h3⟩
    unfold laws_szDevice.f
    exact Ev.bind hr (Ev.now' fun _ => by rw [if_neg h])

theorem deviceok_loops (l : List ByteArray) (hl : l.length ≤ 1048576) (d : Nat) : ∀ (i : Int), 0 ≤ i → i ≤ l.length → (l.length : Int) - i = d → ∃ r, Ev (fun k => spec_DeviceOk.l0 k i l) r ∧ Ev (fun k => impl_DeviceOk.l0 k l (l.length : Int) i l) r ∧ (r = true → l.length = 21 ∧ ∀ j : Nat, i ≤ j → j < l.length → (l.getD j ByteArray.empty).size ≤ 60) := by
  induction d with
  | zero =>
    intro i h0 h1 hd
    refine ⟨((l.length : Int) == 21), Ev.last (fun k => by simp only [spec_DeviceOk.l0]; rw [if_neg (by omega)]), Ev.last (fun k => by simp only [impl_DeviceOk.l0]; rw [if_neg (by omega)]), fun h => ⟨?_, fun j j0 j1 => by omega⟩⟩
    have := beq_iff_eq.1 h
    omega
  | succ d ih =>
    intro i h0 h1 hd
    have hw : wrap64 (i + 1) = i + 1 := w64 (by omega) (by omega)
    have e : rdOf ByteArray.empty l i = l.getD i.toNat ByteArray.empty := rfl
    by_cases hb : ((l.getD i.toNat ByteArray.empty).size : Int) > 60
    · exact ⟨false, Ev.last (fun k => by simp only [spec_DeviceOk.l0, e]; rw [if_pos (by omega), if_pos h0, if_pos hb]), Ev.last (fun k => by simp only [impl_DeviceOk.l0, e]; rw [if_pos (by omega), if_pos h0, if_pos (by omega), if_pos hb]), fun h => by cases h⟩
    · obtain ⟨r, hr1, hr2, hr3⟩ := ih (i + 1) (by omega) (by omega) (by omega)
      refine ⟨r, Ev.step (fun k => by simp only [spec_DeviceOk.l0, e]; rw [if_pos (by omega), if_pos h0, if_neg hb, hw]) hr1, Ev.step (fun k => by simp only [impl_DeviceOk.l0, e]; rw [if_pos (by omega), if_pos h0, if_pos (by omega), if_neg hb, hw]) hr2, fun h => ⟨(hr3 h).1, fun j j0 j1 => ?_⟩⟩
      by_cases ej : j = i.toNat
      · subst ej
        omega
      · exact (hr3 h).2 j (by omega) j1
theorem deviceok_ev (l : List ByteArray) (hl : l.length ≤ 1048576) : ∃ r, Ev (fun k => spec_DeviceOk.f k l) r ∧ Ev (fun k => impl_DeviceOk.f k l) r ∧ (r = true → l.length = 21 ∧ ∀ s ∈ l, s.size ≤ 60) := by
  obtain ⟨r, h1, h2, h3⟩ := deviceok_loops l hl l.length 0 (by omega) (by omega) (by omega)
  refine ⟨r, h1, h2, fun h => ⟨(h3 h).1, fun s hs => ?_⟩⟩
  obtain ⟨j, hj, e⟩ := List.mem_iff_getElem.1 hs
  have := (h3 h).2 j (by omega) hj
  rw [List.getD_eq_getElem?_getD, List.getElem?_eq_getElem hj] at this
  rw [← e]
  exact this

theorem in_eq (a b c : Int) : spec_l01In.f a b c = some (decide (b ≤ a ∧ a ≤ c)) := by
  unfold spec_l01In.f
  by_cases h : a ≥ b
  · rw [if_pos h]
    simp [show b ≤ a from h]
  · rw [if_neg h]
    simp [show ¬ b ≤ a from h]

theorem within_eq (a b c : Int) : impl_within.f a b c = some (decide (b ≤ a ∧ a ≤ c)) := by
  unfold impl_within.f
  by_cases h : a ≥ b
  · rw [if_pos h]
    simp [show b ≤ a from h]
  · rw [if_neg h]
    simp [show ¬ b ≤ a from h]

/-- A right inode. -/
def IOk (k l : Int) (p : List Int) : Prop := 0 ≤ k ∧ k ≤ 2 ∧ 0 ≤ l ∧ l ≤ 200 ∧ p.length = 2 ∧ (∀ x ∈ p, 0 ≤ x ∧ x ≤ 16 ∧ (k = 0 → x = 0)) ∧ (k = 0 → l = 0)
instance (k l : Int) (p : List Int) : Decidable (IOk k l p) := by unfold IOk; infer_instance
theorem two_of {p : List Int} (h : p.length = 2) : ∃ a b, p = [a, b] := by
  match p, h with
  | [a, b], _ => exact ⟨a, b, rfl⟩
theorem spec_inodeok_two (k l a b : Int) : Ev (fun n => spec_InodeOk.l0 n 0 k l [a, b]) (decide ((0 ≤ a ∧ a ≤ 16 ∧ (k = 0 → a = 0)) ∧ (0 ≤ b ∧ b ≤ 16 ∧ (k = 0 → b = 0)) ∧ (k = 0 → l = 0))) := by
  refine Ev.at_ 4 (fun n hn => ?_)
  obtain ⟨n, rfl⟩ : ∃ m, n = m + 4 := ⟨n - 4, by omega⟩
  have r0 : rd [a, b] 0 = a := rfl
  have r1 : rd [a, b] 1 = b := rfl
  have w0 : wrap64 (0 + 1) = 1 := by decide +kernel
  have w1 : wrap64 (1 + 1) = 2 := by decide +kernel
  simp only [spec_InodeOk.l0, in_eq, Option.bind_some, r0, w0, r1, w1, decide_eq_true_eq]
  by_cases k0 : k = 0
  · subst k0
    by_cases h1 : 0 ≤ a ∧ a ≤ 16
    · by_cases h2 : a = 0
      · by_cases h3 : 0 ≤ b ∧ b ≤ 16
        · by_cases h4 : b = 0
          · by_cases h5 : l = 0
            · simp [h2, h4, h5]
            · simp [h2, h4, h5]
          · simp [h2, h3, h4]
        · simp [h2, h3]
          try omega
      · simp [h1, h2]
    · simp [h1]
      try omega
  · by_cases h1 : 0 ≤ a ∧ a ≤ 16
    · by_cases h3 : 0 ≤ b ∧ b ≤ 16
      · simp [k0, h1, h3]
      · simp [k0, h1, h3]
        try omega
    · simp [k0, h1]
      try omega
theorem spec_inodeok (k l : Int) (p : List Int) : Ev (fun n => spec_InodeOk.f n k l p) (decide (IOk k l p)) := by
  have no : ∀ {x0 x1 : Int} {x2 : List Int}, ¬ IOk k l p → Ev (fun n => spec_InodeOk.j0 n true x0 x1 x2) (decide (IOk k l p)) := fun h => Ev.last (fun n => by simp only [spec_InodeOk.j0]; rw [decide_eq_false h]; rfl)
  unfold spec_InodeOk.f
  simp only [in_eq, Option.bind_some, decide_eq_true_eq]
  by_cases h1 : 0 ≤ k ∧ k ≤ 2
  · by_cases h2 : 0 ≤ l ∧ l ≤ 200
    · simp only [if_pos h1, if_pos h2]
      by_cases h3 : p.length = 2
      · obtain ⟨a, b, rfl⟩ := two_of h3
        refine Ev.step (f := fun n => spec_InodeOk.l0 n 0 k l [a, b]) (fun n => by simp only [spec_InodeOk.j0]; rfl) ?_
        have e : decide (IOk k l [a, b]) = decide ((0 ≤ a ∧ a ≤ 16 ∧ (k = 0 → a = 0)) ∧ (0 ≤ b ∧ b ≤ 16 ∧ (k = 0 → b = 0)) ∧ (k = 0 → l = 0)) := by
          rw [decide_eq_decide]
          unfold IOk
          simp [h1, h2, and_assoc]
        rw [e]
        exact spec_inodeok_two k l a b
      · have hb : ((p.length : Int) != 2) = true := by rw [bne_iff_ne]; omega
        rw [hb]
        exact no (fun h => h3 h.2.2.2.2.1)
    · simp only [if_pos h1, if_neg h2]
      exact no (fun h => h2 ⟨h.2.2.1, h.2.2.2.1⟩)
  · simp only [if_neg h1]
    exact no (fun h => h1 ⟨h.1, h.2.1⟩)
theorem impl_inodeok_loop (k l : Int) (p : List Int) (hp : p.length ≤ 1048576) (d : Nat) : ∀ (i : Int), 0 ≤ i → i ≤ p.length → (p.length : Int) - i = d → (∀ j : Nat, (j : Int) < i → 0 ≤ p.getD j 0 ∧ p.getD j 0 ≤ 16 ∧ (k = 0 → p.getD j 0 = 0)) → Ev (fun n => impl_InodeOk.l0 n p (p.length : Int) i k l p) (decide (IOk k l p)) := by
  induction d with
  | zero =>
    intro i h0 h1 hd hall
    have hall' : ∀ x ∈ p, 0 ≤ x ∧ x ≤ 16 ∧ (k = 0 → x = 0) := fun x hx => by
      obtain ⟨j, hj, e⟩ := List.mem_iff_getElem.1 hx
      have := hall j (by omega)
      rw [List.getD_eq_getElem?_getD, List.getElem?_eq_getElem hj] at this
      rw [← e]
      exact this
    refine Ev.last (fun n => ?_)
    simp only [impl_InodeOk.l0, within_eq, Option.bind_some, decide_eq_true_eq]
    rw [if_neg (by omega)]
    have hlen : ((p.length : Int) = 2) ↔ p.length = 2 := by omega
    by_cases a1 : 0 ≤ k ∧ k ≤ 2
    · by_cases a2 : 0 ≤ l ∧ l ≤ 200
      · by_cases a3 : p.length = 2
        · rw [if_pos a1, if_pos a2, if_pos (hlen.2 a3)]
          by_cases k0 : k = 0
          · rw [if_pos k0]
            by_cases l0 : l = 0
            · rw [decide_eq_true (show IOk k l p from ⟨a1.1, a1.2, a2.1, a2.2, a3, hall', fun _ => l0⟩), l0]
              rfl
            · rw [decide_eq_false (fun h : IOk k l p => l0 (h.2.2.2.2.2.2 k0)), beq_eq_false_iff_ne.2 l0]
          · rw [if_neg k0, decide_eq_true (show IOk k l p from ⟨a1.1, a1.2, a2.1, a2.2, a3, hall', fun h => absurd h k0⟩)]
        · rw [if_pos a1, if_pos a2, if_neg (fun h => a3 (hlen.1 h)), decide_eq_false (fun h : IOk k l p => a3 h.2.2.2.2.1)]
      · rw [if_pos a1, if_neg a2, decide_eq_false (fun h : IOk k l p => a2 ⟨h.2.2.1, h.2.2.2.1⟩)]
    · rw [if_neg a1, decide_eq_false (fun h : IOk k l p => a1 ⟨h.1, h.2.1⟩)]
  | succ d ih =>
    intro i h0 h1 hd hall
    have hw : wrap64 (i + 1) = i + 1 := w64 (by omega) (by omega)
    have e : rd p i = p.getD i.toNat 0 := rfl
    have hmem := getD_mem (xs := p) (i := i.toNat) 0 (by omega)
    by_cases hin : 0 ≤ p.getD i.toNat 0 ∧ p.getD i.toNat 0 ≤ 16 ∧ (k = 0 → p.getD i.toNat 0 = 0)
    · refine Ev.step (fun n => ?_) (ih (i + 1) (by omega) (by omega) (by omega) (fun j hj => by
        by_cases ej : j = i.toNat
        · rw [ej]; exact hin
        · exact hall j (by omega)))
      simp only [impl_InodeOk.l0, within_eq, Option.bind_some, decide_eq_true_eq, e]
      rw [if_pos (by omega), if_pos h0, if_pos (by omega), if_pos ⟨hin.1, hin.2.1⟩, hw]
      by_cases z : p.getD i.toNat 0 = 0
      · rw [if_pos z]
      · rw [if_neg z, if_neg (fun k0 => z (hin.2.2 k0))]
    · refine Ev.last (fun n => ?_)
      rw [decide_eq_false (fun h : IOk k l p => hin (h.2.2.2.2.2.1 _ hmem))]
      simp only [impl_InodeOk.l0, within_eq, Option.bind_some, decide_eq_true_eq, e]
      rw [if_pos (by omega), if_pos h0, if_pos (by omega)]
      by_cases hr : 0 ≤ p.getD i.toNat 0 ∧ p.getD i.toNat 0 ≤ 16
      · have hk : k = 0 := Decidable.byContradiction fun hk => hin ⟨hr.1, hr.2, fun h => absurd h hk⟩
        have hz : ¬ p.getD i.toNat 0 = 0 := fun hz => hin ⟨hr.1, hr.2, fun _ => hz⟩
        rw [if_pos hr, if_neg hz, if_pos hk]
      · rw [if_neg hr]
theorem impl_inodeok (k l : Int) (p : List Int) (hp : p.length ≤ 1048576) : Ev (fun n => impl_InodeOk.f n k l p) (decide (IOk k l p)) :=
  impl_inodeok_loop k l p hp p.length 0 (by omega) (by omega) (by omega) (fun j hj => by omega)

/-- What both ReadInodes answer. -/
def RI (s : ByteArray) : Int × Int × List Int × Bool := if s.size = 4 ∧ IOk (bt s 0) (bt s 1) [bt s 2, bt s 3] then (bt s 0, bt s 1, [bt s 2, bt s 3], true) else (0, 0, [], false)
theorem wbt (s : ByteArray) (i : Int) : wrap64 (bt s i) = bt s i := by
  have := bt_range s i
  exact w64 (by omega) (by omega)
theorem spec_readinode (s : ByteArray) : Ev (fun k => spec_ReadInode.f k s) (RI s) := by
  unfold spec_ReadInode.f RI
  by_cases h : s.size = 4
  · have hs : (s.size : Int) = 4 := by omega
    simp only [wbt]
    refine Ev.congr (f := fun k => (spec_InodeOk.f k (bt s 0) (bt s 1) [bt s 2, bt s 3]).bind fun t => if t = true then some (bt s 0, bt s 1, [bt s 2, bt s 3], true) else some (0, 0, ([] : List Int), false)) (fun k => ?_) ?_
    · rw [if_pos hs, if_pos (by omega), if_pos (by omega), if_pos (by omega), if_pos (by omega)]
      rfl
    · refine Ev.bind (spec_inodeok _ _ _) (Ev.now' fun _ => ?_)
      by_cases ho : IOk (bt s 0) (bt s 1) [bt s 2, bt s 3]
      · simp [h, ho]
      · simp [h, ho]
  · exact Ev.now' fun k => by rw [if_neg (by omega), if_neg (fun z => h z.1)]
theorem impl_readinode (s : ByteArray) : Ev (fun k => impl_ReadInode.f k s) (RI s) := by
  unfold impl_ReadInode.f RI
  by_cases h : s.size = 4
  · have hs : (s.size : Int) = 4 := by omega
    simp only [wbt]
    have w0 : wrap64 (0 + 1) = 1 := by decide +kernel
    have w1 : wrap64 (1 + 1) = 2 := by decide +kernel
    have v0 : wrap64 (2 + 0) = 2 := by decide +kernel
    have v1 : wrap64 (2 + 1) = 3 := by decide +kernel
    refine Ev.congr (f := fun k => impl_ReadInode.l0 k s 0 (bt s 0) (bt s 1) []) (fun k => by rw [if_pos hs, if_pos (by omega), if_pos (by omega)]) ?_
    refine Ev.step (f := fun k => impl_ReadInode.l0 k s 1 (bt s 0) (bt s 1) [bt s 2]) (fun k => by
      simp only [impl_ReadInode.l0, v0, w0, wbt]
      rw [if_pos (by omega), if_pos (by omega), if_pos (by omega), if_pos (by simp)]
      rfl) ?_
    refine Ev.step (f := fun k => impl_ReadInode.l0 k s 2 (bt s 0) (bt s 1) [bt s 2, bt s 3]) (fun k => by
      simp only [impl_ReadInode.l0, v1, w1, wbt]
      rw [if_pos (by omega), if_pos (by omega), if_pos (by omega), if_pos (by simp)]
      rfl) ?_
    refine Ev.step (f := fun k => (impl_InodeOk.f k (bt s 0) (bt s 1) [bt s 2, bt s 3]).bind fun t => if t = true then some (bt s 0, bt s 1, [bt s 2, bt s 3], true) else some (0, 0, ([] : List Int), false)) (fun k => by
      simp only [impl_ReadInode.l0]
      rw [if_neg (by omega)]) ?_
    refine Ev.bind (impl_inodeok _ _ _ (by simp)) (Ev.now' fun _ => ?_)
    by_cases ho : IOk (bt s 0) (bt s 1) [bt s 2, bt s 3]
    · simp [h, ho]
    · simp [h, ho]
  · exact Ev.now' fun k => by rw [if_neg (by omega), if_neg (fun z => h z.1)]
/-- Bit i of a byte. -/
def bitOf (c : Int) (i : Nat) : Bool := (c.toNat / 2 ^ i) % 2 == 1
/-- The eight bits of a byte. -/
def ub (c : Int) : List Bool := [bitOf c 0, bitOf c 1, bitOf c 2, bitOf c 3, bitOf c 4, bitOf c 5, bitOf c 6, bitOf c 7]
/-- What both ReadBits answer. -/
def RB (s : ByteArray) : List Bool × List Bool × Bool := if s.size = 3 then (ub (bt s 0) ++ ub (bt s 1), ub (bt s 2), true) else ([], [], false)
theorem unpacked_all : ∀ n : Fin 256, impl_unpacked.f 10 ((n.val : Nat) : Int) = some (ub ((n.val : Nat) : Int)) := by decide +kernel
theorem unpacked_ev (c : Int) (h0 : 0 ≤ c) (h1 : c ≤ 255) : Ev (fun k => impl_unpacked.f k c) (ub c) := by
  have h := unpacked_all ⟨c.toNat, by omega⟩
  rw [Int.toNat_of_nonneg h0] at h
  exact Ev.of (fun k => impl_unpacked.mono _ k) h
theorem rb_len (s : ByteArray) : (RB s).1.length ≤ 1048576 ∧ (RB s).2.1.length ≤ 1048576 := by
  unfold RB
  split <;> simp [ub]
theorem impl_readbits (s : ByteArray) : Ev (fun k => impl_ReadBits.f k s) (RB s) := by
  unfold impl_ReadBits.f RB
  by_cases h : s.size = 3
  · have hs : (s.size : Int) = 3 := by omega
    simp only [if_pos h, if_pos hs]
    simp only [if_pos (show (0 : Int) < (s.size : Int) by omega), if_pos (show (1 : Int) < (s.size : Int) by omega), if_pos (show (2 : Int) < (s.size : Int) by omega)]
    have b0 := bt_range s 0
    have b1 := bt_range s 1
    have b2 := bt_range s 2
    refine Ev.bind (unpacked_ev _ b0.1 b0.2) (Ev.bind (unpacked_ev _ b1.1 b1.2) ?_)
    simp only [if_pos (show (ub (bt s 0)).length + (ub (bt s 1)).length < 140737488355328 by simp [ub])]
    exact Ev.bind (unpacked_ev _ b2.1 b2.2) (Ev.now _)
  · exact Ev.now' fun k => by rw [if_neg (by omega), if_neg h]

/-- Bit i of three bytes. -/
def bitAt (s : ByteArray) (i : Nat) : Bool := bitOf (bt s ((i / 8 : Nat) : Int)) (i % 8)
theorem l1_loop (s : ByteArray) (i : Nat) (hi : i < 24) (A B : List Bool) (hA : A.length ≤ 24) (hB : B.length ≤ 24) (r : List Bool × List Bool × Bool) (hn : if i < 16 then Ev (fun k => spec_ReadBits.l0 k s ((i + 1 : Nat) : Int) (A ++ [bitAt s i]) B) r else Ev (fun k => spec_ReadBits.l0 k s ((i + 1 : Nat) : Int) A (B ++ [bitAt s i])) r) (d : Nat) :
    ∀ j : Nat, j ≤ i % 8 → i % 8 - j = d → Ev (fun k => spec_ReadBits.l1 k s (i : Int) (((bt s ((i / 8 : Nat) : Int)).toNat / 2 ^ j : Nat) : Int) (j : Int) A B) r := by
  have hb := bt_range s ((i / 8 : Nat) : Int)
  have hm : Int.tmod (i : Int) 8 = ((i % 8 : Nat) : Int) := by rw [tmod_nn (by omega)]; omega
  induction d with
  | zero =>
    intro j hj hd
    obtain rfl : j = i % 8 := by omega
    have hbit : (Int.tmod (((bt s ((i / 8 : Nat) : Int)).toNat / 2 ^ (i % 8) : Nat) : Int) 2 == 1) = bitAt s i := by
      unfold bitAt bitOf
      generalize (bt s ((i / 8 : Nat) : Int)).toNat / 2 ^ (i % 8) = q
      rw [tmod_nn (by omega)]
      rw [Bool.eq_iff_iff, beq_iff_eq, beq_iff_eq]
      omega
    have hw : wrap64 ((i : Int) + 1) = ((i + 1 : Nat) : Int) := by rw [w64 (by omega) (by omega)]; omega
    by_cases h16 : i < 16
    · rw [if_pos h16] at hn
      refine Ev.step (fun k => ?_) hn
      simp only [spec_ReadBits.l1]
      rw [hm, if_neg (by omega), if_pos (by omega), if_pos (by omega), hbit, hw]
    · rw [if_neg h16] at hn
      refine Ev.step (fun k => ?_) hn
      simp only [spec_ReadBits.l1]
      rw [hm, if_neg (by omega), if_neg (by omega), if_pos (by omega), hbit, hw]
  | succ d ih =>
    intro j hj hd
    have hlt : (bt s ((i / 8 : Nat) : Int)).toNat / 2 ^ j ≤ 255 := Nat.le_trans (Nat.div_le_self _ _) (by omega)
    have hdiv : (bt s ((i / 8 : Nat) : Int)).toNat / 2 ^ j / 2 = (bt s ((i / 8 : Nat) : Int)).toNat / 2 ^ (j + 1) := by
      rw [Nat.div_div_eq_div_mul, Nat.pow_succ]
    refine Ev.step (fun k => ?_) (ih (j + 1) (by omega) (by omega))
    generalize (bt s ((i / 8 : Nat) : Int)).toNat / 2 ^ (j + 1) = q' at hdiv ⊢
    generalize (bt s ((i / 8 : Nat) : Int)).toNat / 2 ^ j = q at hlt hdiv ⊢
    simp only [spec_ReadBits.l1]
    rw [hm, if_pos (by omega), tdiv_nn (by omega), w64 (x := (q : Int) / 2) (by omega) (by omega), w64 (x := (j : Int) + 1) (by omega) (by omega)]
    rw [show (q : Int) / 2 = (q' : Int) by omega, show (j : Int) + 1 = ((j + 1 : Nat) : Int) by omega]
theorem l0_loop (s : ByteArray) (hs : s.size = 3) (d : Nat) : ∀ i : Nat, i ≤ 24 → 24 - i = d → Ev (fun k => spec_ReadBits.l0 k s (i : Int) ((List.range (min i 16)).map (bitAt s)) ((List.range (i - 16)).map fun t => bitAt s (16 + t))) ((List.range 16).map (bitAt s), (List.range 8).map fun t => bitAt s (16 + t), true) := by
  induction d with
  | zero =>
    intro i hi hd
    obtain rfl : i = 24 := by omega
    exact Ev.last (fun k => by simp only [spec_ReadBits.l0]; rw [if_neg (by omega)]; rfl)
  | succ d ih =>
    intro i hi hd
    have hb := bt_range s ((i / 8 : Nat) : Int)
    have hn := ih (i + 1) (by omega) (by omega)
    have h1 := l1_loop s i (by omega) ((List.range (min i 16)).map (bitAt s)) ((List.range (i - 16)).map fun t => bitAt s (16 + t)) (by simp; omega) (by simp; omega) _ (by
      by_cases h16 : i < 16
      · rw [if_pos h16]
        rw [show min (i + 1) 16 = min i 16 + 1 by omega, show i + 1 - 16 = i - 16 by omega, List.range_succ, List.map_append, show min i 16 = i by omega] at hn
        rw [show min i 16 = i by omega]
        exact hn
      · rw [if_neg h16]
        rw [show min (i + 1) 16 = min i 16 by omega, show i + 1 - 16 = (i - 16) + 1 by omega, List.range_succ, List.map_append] at hn
        rw [show i = 16 + (i - 16) by omega] at hn ⊢
        simpa using hn) (i % 8) 0 (by omega) (by omega)
    refine Ev.step (fun k => ?_) h1
    have hdv : wrap64 (Int.tdiv (i : Int) 8) = ((i / 8 : Nat) : Int) := by rw [tdiv_nn (by omega), w64 (by omega) (by omega)]; omega
    simp only [spec_ReadBits.l0, hdv]
    rw [if_pos (by omega), if_pos (by omega), if_pos (by omega), w64 (x := bt s ((i / 8 : Nat) : Int)) (by omega) (by omega)]
    rw [show (bt s ((i / 8 : Nat) : Int)) = (((bt s ((i / 8 : Nat) : Int)).toNat / 2 ^ 0 : Nat) : Int) by rw [Nat.pow_zero, Nat.div_one, Int.toNat_of_nonneg hb.1]]
    simp only [Nat.pow_zero, Nat.div_one, Int.toNat_natCast]
    rfl
theorem spec_readbits (s : ByteArray) : Ev (fun k => spec_ReadBits.f k s) (RB s) := by
  unfold spec_ReadBits.f RB
  by_cases h : s.size = 3
  · have hs : (s.size : Int) = 3 := by omega
    simp only [if_pos h, if_pos hs]
    have h0 := l0_loop s h 24 0 (by omega) (by omega)
    exact h0
  · exact Ev.now' fun k => by rw [if_neg (by omega), if_neg h]

open Classical in
/-- A proposition as a Bool. -/
noncomputable def dB (p : Prop) : Bool := decide p
theorem dB_true {p : Prop} (h : p) : dB p = true := @decide_eq_true p (Classical.propDecidable p) h
theorem dB_false {p : Prop} (h : ¬ p) : dB p = false := @decide_eq_false p (Classical.propDecidable p) h
theorem dB_congr {p q : Prop} (h : p ↔ q) : dB p = dB q := by rw [propext h]
theorem of_dB {p : Prop} (h : dB p = true) : p := Classical.byContradiction fun hp => by rw [dB_false hp] at h; exact absurd h (by decide)

theorem name_ev (s : ByteArray) (hs : s.size ≤ 140737488351232) : ∃ r, Ev (fun k => spec_NameOk.f k s) r ∧ Ev (fun k => impl_NameOk.f k s) r ∧ (r = true → 1 ≤ s.size ∧ s.size ≤ 6) := by
  have loop : ∀ (d : Nat) (i : Int), 0 ≤ i → i ≤ s.size → (s.size : Int) - i = d → ∃ r, Ev (fun k => spec_NameOk.l0 k s i) r ∧ Ev (fun k => impl_NameOk.l0 k s (s.size : Int) i) r ∧ (r = true → 1 ≤ s.size ∧ s.size ≤ 6) := by
    intro d
    induction d with
    | zero =>
      intro i h0 h1 hd
      refine ⟨decide (1 ≤ (s.size : Int) ∧ (s.size : Int) ≤ 6), Ev.last fun k => ?_, Ev.last fun k => ?_, fun h => ?_⟩
      · simp only [spec_NameOk.l0]
        rw [if_neg (by omega), in_eq]
        rfl
      · simp only [impl_NameOk.l0]
        rw [if_neg (by omega), within_eq]
        rfl
      · have := of_decide_eq_true h
        omega
    | succ d ih =>
      intro i h0 h1 hd
      have hi : i < (s.size : Int) := by omega
      have hw : wrap64 (i + 1) = i + 1 := w64 (by omega) (by omega)
      have hb := bt_range s i
      have hwb : wrap64 (bt s i) = bt s i := w64 (by omega) (by omega)
      obtain ⟨r, hr1, hr2, hr3⟩ := ih (i + 1) (by omega) (by omega) (by omega)
      have es : ∀ k, spec_NameOk.l0 (k + 1) s i = if (97 ≤ bt s i ∧ bt s i ≤ 122) ∨ (48 ≤ bt s i ∧ bt s i ≤ 57) then spec_NameOk.l0 k s (i + 1) else some false := fun k => by
        simp only [spec_NameOk.l0]
        rw [if_pos hi, if_pos h0, hw]
        split <;> split <;> (try split) <;> (try split) <;> (try split) <;> first | rfl | omega
      have ei : ∀ k, impl_NameOk.l0 (k + 1) s (s.size : Int) i = if (97 ≤ bt s i ∧ bt s i ≤ 122) ∨ (48 ≤ bt s i ∧ bt s i ≤ 57) then impl_NameOk.l0 k s (s.size : Int) (i + 1) else some false := fun k => by
        simp only [impl_NameOk.l0]
        rw [if_pos hi, if_pos h0, if_pos hi, hw, hwb, within_eq, within_eq]
        simp only [Option.bind_some, decide_eq_true_eq]
        split <;> (try split) <;> (try split) <;> first | rfl | omega
      by_cases c : (97 ≤ bt s i ∧ bt s i ≤ 122) ∨ (48 ≤ bt s i ∧ bt s i ≤ 57)
      · exact ⟨r, Ev.step (fun k => by rw [es, if_pos c]) hr1, Ev.step (fun k => by rw [ei, if_pos c]) hr2, hr3⟩
      · exact ⟨false, Ev.last (fun k => by rw [es, if_neg c]), Ev.last (fun k => by rw [ei, if_neg c]), fun h => by simp at h⟩
  exact loop s.size 0 (by omega) (by omega) (by omega)
/-- Whether a text is a right name. -/
noncomputable def nameB (s : ByteArray) : Bool := if h : s.size ≤ 140737488351232 then (name_ev s h).choose else false
theorem nameB_eq (s : ByteArray) (h : s.size ≤ 140737488351232) : nameB s = (name_ev s h).choose := by
  unfold nameB
  rw [dif_pos h]
theorem name_spec (s : ByteArray) (h : s.size ≤ 140737488351232) : Ev (fun k => spec_NameOk.f k s) (nameB s) := by
  rw [nameB_eq s h]
  exact (name_ev s h).choose_spec.1
theorem name_impl (s : ByteArray) (h : s.size ≤ 140737488351232) : Ev (fun k => impl_NameOk.f k s) (nameB s) := by
  rw [nameB_eq s h]
  exact (name_ev s h).choose_spec.2.1
theorem name_size (s : ByteArray) (h : s.size ≤ 140737488351232) (hb : nameB s = true) : 1 ≤ s.size ∧ s.size ≤ 6 := by
  rw [nameB_eq s h] at hb
  exact (name_ev s h).choose_spec.2.2 hb

/-- The slot at j is empty, or right and the first of its name. -/
def SOk (l : List S69) (j : Nat) : Prop := ((l.getD j z69).f0.toList = ([] : List UInt8) ∧ (l.getD j z69).f1 = 0) ∨ (nameB (l.getD j z69).f0 = true ∧ 1 ≤ (l.getD j z69).f1 ∧ (l.getD j z69).f1 ≤ 8 ∧ ∀ k, k < j → ¬ (l.getD k z69).f0.toList = (l.getD j z69).f0.toList)
/-- A right block. -/
def BOk (b : Bool) (l : List S69) (t : ByteArray) : Prop := if b = true then (∀ j, j < l.length → SOk l j) ∧ l.length = 4 ∧ t.toList = ([] : List UInt8) else l.length = 0 ∧ t.size ≤ 16
theorem idx_le (nm : ByteArray) (l : List S69) (k : Nat) (i : Int) (hk : k < l.length) (h : (l.getD k z69).f0.toList = nm.toList) : impl_SlotOf.idx nm l i ≤ i + k := by
  induction l generalizing k i with
  | nil => simp at hk
  | cons x r ih =>
    simp only [impl_SlotOf.idx]
    split
    · omega
    · rename_i hx
      cases k with
      | zero => exact absurd (by simpa using h) hx
      | succ k =>
        have := ih k (i + 1) (by simpa using hk) (by simpa using h)
        omega
theorem idx_self (l : List S69) (j : Nat) (hj : j < l.length) : impl_SlotOf.idx (l.getD j z69).f0 l 0 = (j : Int) ↔ ∀ k, k < j → ¬ (l.getD k z69).f0.toList = (l.getD j z69).f0.toList := by
  constructor
  · intro h k hk e
    have := idx_le (l.getD j z69).f0 l k 0 (by omega) e
    omega
  · intro h
    rw [impl_SlotOf.idx_hit (l.getD j z69).f0 l j 0 hj rfl h]
    omega
theorem toList_ne {s : ByteArray} (h : 1 ≤ s.size) : ¬ s.toList = ([] : List UInt8) := fun e => by
  rw [Go.Lib.toList_data] at e
  have h2 : s.data.toList.length = 0 := by rw [e]; rfl
  rw [Array.length_toList] at h2
  have h3 : s.size = s.data.size := rfl
  omega
theorem spec_block_l1 (b : Bool) (l : List S69) (t : ByteArray) (hl : l.length = 4) (x3 : Nat) (h3 : x3 < 4) (R : Bool) (hR : Ev (fun n => spec_BlockOk.l0 n ((x3 : Int) + 1) b l t) R) (nm : ByteArray) (ino : Int) (d : Nat) : ∀ x5 : Nat, x5 ≤ x3 → x3 - x5 = d → Ev (fun n => spec_BlockOk.l1 n x3 x5 b l t nm ino) (dB ((∀ k, x5 ≤ k → k < x3 → ¬ (l.getD k z69).f0.toList = nm.toList) ∧ R = true)) := by
  induction d with
  | zero =>
    intro x5 h5 hd
    have hw : wrap64 ((x3 : Int) + 1) = (x3 : Int) + 1 := w64 (by omega) (by omega)
    have e : dB ((∀ k, x5 ≤ k → k < x3 → ¬ (l.getD k z69).f0.toList = nm.toList) ∧ R = true) = R := by
      cases R with
      | true => exact dB_true ⟨fun k h h' => by omega, rfl⟩
      | false => exact dB_false (fun h => by simp at h)
    rw [e]
    refine Ev.step (fun n => ?_) hR
    simp only [spec_BlockOk.l1]
    rw [if_neg (by omega), hw]
  | succ d ih =>
    intro x5 h5 hd
    have hw : wrap64 ((x5 : Int) + 1) = ((x5 + 1 : Nat) : Int) := by rw [w64 (by omega) (by omega)]; omega
    have e0 : rd_T69 l (x5 : Int) = l.getD x5 z69 := rfl
    by_cases hit : (l.getD x5 z69).f0.toList = nm.toList
    · rw [dB_false (fun h => h.1 x5 (Nat.le_refl _) (by omega) hit)]
      refine Ev.last (fun n => ?_)
      simp only [spec_BlockOk.l1, e0]
      rw [if_pos (by omega), if_pos (by omega), if_pos (by omega), if_pos hit]
    · have e : dB ((∀ k, x5 ≤ k → k < x3 → ¬ (l.getD k z69).f0.toList = nm.toList) ∧ R = true) = dB ((∀ k, x5 + 1 ≤ k → k < x3 → ¬ (l.getD k z69).f0.toList = nm.toList) ∧ R = true) := dB_congr ⟨fun h => ⟨fun k hk => h.1 k (by omega), h.2⟩, fun h => ⟨fun k hk hk' => by
        by_cases ek : k = x5
        · rw [ek]; exact hit
        · exact h.1 k (by omega) hk', h.2⟩⟩
      rw [e]
      refine Ev.step (fun n => ?_) (ih (x5 + 1) (by omega) (by omega))
      simp only [spec_BlockOk.l1, e0]
      rw [if_pos (by omega), if_pos (by omega), if_pos (by omega), if_neg hit, hw]
theorem spec_block_l0 (b : Bool) (l : List S69) (t : ByteArray) (hl : l.length = 4) (hn : ∀ x ∈ l, x.f0.size ≤ 140737488351232) (d : Nat) : ∀ i : Nat, i ≤ 4 → 4 - i = d → Ev (fun n => spec_BlockOk.l0 n i b l t) (dB (∀ j, i ≤ j → j < 4 → SOk l j)) := by
  induction d with
  | zero =>
    intro i h4 hd
    rw [dB_true (fun j h h' => by omega)]
    refine Ev.last (fun n => ?_)
    simp only [spec_BlockOk.l0]
    rw [if_neg (by omega)]
  | succ d ih =>
    intro i h4 hd
    have hw : wrap64 ((i : Int) + 1) = (i : Int) + 1 := w64 (by omega) (by omega)
    have e0 : rd_T69 l (i : Int) = l.getD i z69 := rfl
    have hi := ih (i + 1) (by omega) (by omega)
    have e1 : ((i + 1 : Nat) : Int) = (i : Int) + 1 := by omega
    rw [e1] at hi
    have hsz := hn _ (getD_mem (xs := l) (i := i) z69 (by omega))
    have split1 : dB (∀ j, i ≤ j → j < 4 → SOk l j) = dB (SOk l i ∧ dB (∀ j, i + 1 ≤ j → j < 4 → SOk l j) = true) := dB_congr ⟨fun h => ⟨h i (Nat.le_refl _) (by omega), dB_true (fun j hj => h j (by omega))⟩, fun h j hj hj' => by
      by_cases ej : j = i
      · rw [ej]; exact h.1
      · exact of_dB h.2 j (by omega) hj'⟩
    rw [split1]
    generalize hR : dB (∀ j, i + 1 ≤ j → j < 4 → SOk l j) = R at hi
    by_cases z : (l.getD i z69).f0.toList = ([] : List UInt8) ∧ (l.getD i z69).f1 = 0
    · have e : dB (SOk l i ∧ R = true) = R := by
        cases R with
        | true => exact dB_true ⟨Or.inl z, rfl⟩
        | false => exact dB_false (fun h => by simp at h)
      rw [e]
      refine Ev.step (f := fun n => spec_BlockOk.j2 n i ((l.getD i z69).f1 == 0) b l t (l.getD i z69).f0 (l.getD i z69).f1) (fun n => ?_) (Ev.step (fun n => ?_) hi)
      · simp only [spec_BlockOk.l0, e0]
        rw [if_pos (by omega), if_pos (by omega), if_pos (by omega), if_pos z.1]
      · simp only [spec_BlockOk.j2]
        rw [if_pos (beq_iff_eq.2 z.2), hw]
    · have hj2 : Ev (fun n => spec_BlockOk.j2 n i false b l t (l.getD i z69).f0 (l.getD i z69).f1) (dB (SOk l i ∧ R = true)) := by
        have key : ∀ n, spec_BlockOk.j2 (n + 1) i false b l t (l.getD i z69).f0 (l.getD i z69).f1 = (spec_NameOk.f n (l.getD i z69).f0).bind (fun r => if r = true then spec_BlockOk.j3 n i (!decide (1 ≤ (l.getD i z69).f1 ∧ (l.getD i z69).f1 ≤ 8)) b l t (l.getD i z69).f0 (l.getD i z69).f1 else spec_BlockOk.j3 n i true b l t (l.getD i z69).f0 (l.getD i z69).f1) := fun n => by
          simp only [spec_BlockOk.j2, in_eq, Option.bind_some, Bool.false_eq_true, if_false]
        have no : ¬ (SOk l i ∧ R = true) → Ev (fun n => spec_BlockOk.j3 n i true b l t (l.getD i z69).f0 (l.getD i z69).f1) (dB (SOk l i ∧ R = true)) := fun h => by
          rw [dB_false h]
          exact Ev.last (fun n => by simp only [spec_BlockOk.j3]; rfl)
        refine Ev.step key (Ev.bind (name_spec _ hsz) ?_)
        by_cases hb : nameB (l.getD i z69).f0 = true
        · refine Ev.congr (fun n => by rw [if_pos hb]) ?_
          by_cases hino : 1 ≤ (l.getD i z69).f1 ∧ (l.getD i z69).f1 ≤ 8
          · have e2 : (!decide (1 ≤ (l.getD i z69).f1 ∧ (l.getD i z69).f1 ≤ 8)) = false := by rw [decide_eq_true hino]; rfl
            rw [e2]
            have e : dB (SOk l i ∧ R = true) = dB ((∀ k, 0 ≤ k → k < i → ¬ (l.getD k z69).f0.toList = (l.getD i z69).f0.toList) ∧ R = true) := dB_congr ⟨fun h => ⟨fun k _ hk => by
              rcases h.1 with h1 | h1
              · exact absurd h1 z
              · exact h1.2.2.2 k hk, h.2⟩, fun h => ⟨Or.inr ⟨hb, hino.1, hino.2, fun k hk => h.1 k (Nat.zero_le _) hk⟩, h.2⟩⟩
            rw [e]
            have := spec_block_l1 b l t hl i (by omega) R hi (l.getD i z69).f0 (l.getD i z69).f1 i 0 (Nat.zero_le _) (by omega)
            refine Ev.step (fun n => ?_) this
            simp only [spec_BlockOk.j3, Bool.false_eq_true, if_false]
            rfl
          · have e2 : (!decide (1 ≤ (l.getD i z69).f1 ∧ (l.getD i z69).f1 ≤ 8)) = true := by rw [decide_eq_false hino]; rfl
            rw [e2]
            exact no (fun h => by
              rcases h.1 with h1 | h1
              · exact z h1
              · exact hino ⟨h1.2.1, h1.2.2.1⟩)
        · refine Ev.congr (fun n => by rw [if_neg hb]) ?_
          exact no (fun h => by
            rcases h.1 with h1 | h1
            · exact z h1
            · exact hb h1.1)
      refine Ev.step (fun n => ?_) hj2
      simp only [spec_BlockOk.l0, e0]
      rw [if_pos (by omega), if_pos (by omega), if_pos (by omega)]
      by_cases e : (l.getD i z69).f0.toList = ([] : List UInt8)
      · rw [if_pos e]
        have : ((l.getD i z69).f1 == 0) = false := beq_eq_false_iff_ne.2 (fun h => z ⟨e, h⟩)
        rw [this]
      · rw [if_neg e]
theorem spec_blockok (b : Bool) (l : List S69) (t : ByteArray) (hn : ∀ x ∈ l, x.f0.size ≤ 140737488351232) : Ev (fun n => spec_BlockOk.f n b l t) (dB (BOk b l t)) := by
  unfold spec_BlockOk.f
  by_cases hb : b = true
  · simp only [if_pos hb]
    have no : ¬ BOk b l t → Ev (fun n => spec_BlockOk.j0 n true b l t) (dB (BOk b l t)) := fun h => by
      rw [dB_false h]
      exact Ev.last (fun n => by simp only [spec_BlockOk.j0]; rfl)
    by_cases h4 : l.length = 4
    · have h4' : (l.length : Int) = 4 := by omega
      simp only [if_pos h4']
      by_cases ht : t.toList = ([] : List UInt8)
      · have e1 : (t.toList != ([] : List UInt8)) = false := bne_eq_false_iff_eq.2 ht
        have e : dB (BOk b l t) = dB (∀ j, 0 ≤ j → j < 4 → SOk l j) := dB_congr (by
          unfold BOk
          rw [if_pos hb]
          exact ⟨fun h j _ hj => h.1 j (by omega), fun h => ⟨fun j hj => h j (Nat.zero_le _) (by omega), h4, ht⟩⟩)
        rw [e, e1]
        refine Ev.step (fun n => ?_) (spec_block_l0 b l t h4 hn 4 0 (by omega) (by omega))
        simp only [spec_BlockOk.j0, Bool.false_eq_true, if_false]
        rfl
      · have e1 : (t.toList != ([] : List UInt8)) = true := bne_iff_ne.2 ht
        rw [e1]
        exact no (fun h => by
          unfold BOk at h
          rw [if_pos hb] at h
          exact ht h.2.2)
    · have h4' : ¬ (l.length : Int) = 4 := by omega
      simp only [if_neg h4']
      exact no (fun h => by
        unfold BOk at h
        rw [if_pos hb] at h
        exact h4 h.2.1)
  · simp only [if_neg hb]
    refine Ev.now' (fun _ => ?_)
    have e : dB (BOk b l t) = dB (l.length = 0 ∧ t.size ≤ 16) := dB_congr (by unfold BOk; rw [if_neg hb])
    rw [e]
    by_cases h0 : l.length = 0
    · rw [if_pos (by omega)]
      by_cases h16 : t.size ≤ 16
      · rw [dB_true ⟨h0, h16⟩, decide_eq_true (by omega)]
      · rw [dB_false (fun h => h16 h.2), decide_eq_false (by omega)]
    · rw [if_neg (by omega), dB_false (fun h => h0 h.1)]

theorem impl_block_loop (b : Bool) (l : List S69) (t : ByteArray) (hl : l.length ≤ 1048576) (hn : ∀ x ∈ l, x.f0.size ≤ 140737488351232) (d : Nat) : ∀ i : Nat, i ≤ l.length → l.length - i = d → Ev (fun n => impl_BlockOk.l0 n l (l.length : Int) i b l t) (dB ((∀ j, i ≤ j → j < l.length → SOk l j) ∧ l.length = 4 ∧ t.toList = ([] : List UInt8))) := by
  induction d with
  | zero =>
    intro i h1 hd
    refine Ev.last (fun n => ?_)
    simp only [impl_BlockOk.l0]
    rw [if_neg (by omega)]
    by_cases h4 : l.length = 4
    · rw [if_pos (by omega)]
      by_cases ht : t.toList = ([] : List UInt8)
      · rw [dB_true ⟨fun j h h' => by omega, h4, ht⟩, beq_iff_eq.2 ht]
      · rw [dB_false (fun h => ht h.2.2), beq_eq_false_iff_ne.2 ht]
    · rw [if_neg (by omega), dB_false (fun h => h4 h.2.1)]
  | succ d ih =>
    intro i h1 hd
    have hw : wrap64 ((i : Int) + 1) = ((i + 1 : Nat) : Int) := by rw [w64 (by omega) (by omega)]; omega
    have e0 : rd_T69 l (i : Int) = l.getD i z69 := rfl
    have hi := ih (i + 1) (by omega) (by omega)
    have hsz := hn _ (getD_mem (xs := l) (i := i) z69 (by omega))
    have yes : SOk l i → dB ((∀ j, i ≤ j → j < l.length → SOk l j) ∧ l.length = 4 ∧ t.toList = ([] : List UInt8)) = dB ((∀ j, i + 1 ≤ j → j < l.length → SOk l j) ∧ l.length = 4 ∧ t.toList = ([] : List UInt8)) := fun h => dB_congr ⟨fun q => ⟨fun j hj => q.1 j (by omega), q.2⟩, fun q => ⟨fun j hj hj' => by
      by_cases ej : j = i
      · rw [ej]; exact h
      · exact q.1 j (by omega) hj', q.2⟩⟩
    have no : ¬ SOk l i → dB ((∀ j, i ≤ j → j < l.length → SOk l j) ∧ l.length = 4 ∧ t.toList = ([] : List UInt8)) = false := fun h => dB_false (fun q => h (q.1 i (Nat.le_refl _) (by omega)))
    by_cases z : (l.getD i z69).f0.toList = ([] : List UInt8) ∧ (l.getD i z69).f1 = 0
    · rw [yes (Or.inl z)]
      refine Ev.step (fun n => ?_) hi
      simp only [impl_BlockOk.l0, e0]
      rw [if_pos (by omega), if_pos (by omega), if_pos (by omega), if_pos (by rw [Bool.and_eq_true, beq_iff_eq, beq_iff_eq]; exact z), hw]
    · have hz : ¬ ((((l.getD i z69).f0).toList) == ([] : List UInt8) && (((l.getD i z69).f1) == 0)) = true := by
        intro h
        rw [Bool.and_eq_true, beq_iff_eq, beq_iff_eq] at h
        exact z h
      have key : ∀ n, impl_BlockOk.l0 (n + 1) l (l.length : Int) i b l t = (impl_NameOk.f n (l.getD i z69).f0).bind (fun r => if r = true then (if (1 ≤ (l.getD i z69).f1 ∧ (l.getD i z69).f1 ≤ 8) then (impl_SlotOf.f b l t (l.getD i z69).f0).bind (fun q => if q = (i : Int) then impl_BlockOk.l0 n l (l.length : Int) ((i + 1 : Nat) : Int) b l t else some false) else some false) else some false) := fun n => by
        simp only [impl_BlockOk.l0, e0, impl_isIno.f, within_eq, Option.bind_some, decide_eq_true_eq]
        rw [if_pos (by omega), if_pos (by omega), if_pos (by omega), if_neg hz, hw]
      refine Ev.step key (Ev.bind (name_impl _ hsz) ?_)
      by_cases hb : nameB (l.getD i z69).f0 = true
      · refine Ev.congr (fun n => by rw [if_pos hb]) ?_
        by_cases hino : 1 ≤ (l.getD i z69).f1 ∧ (l.getD i z69).f1 ≤ 8
        · refine Ev.congr (fun n => by rw [if_pos hino]) ?_
          have hne := toList_ne (name_size _ hsz hb).1
          have hs : impl_SlotOf.f b l t (l.getD i z69).f0 = some (impl_SlotOf.idx (l.getD i z69).f0 l 0) := by
            unfold impl_SlotOf.f
            rw [if_neg hne]
          simp only [hs, Option.bind_some]
          by_cases hx : impl_SlotOf.idx (l.getD i z69).f0 l 0 = (i : Int)
          · have hok : SOk l i := Or.inr ⟨hb, hino.1, hino.2, (idx_self l i (by omega)).1 hx⟩
            rw [yes hok]
            exact Ev.congr (fun n => by rw [if_pos hx]) hi
          · rw [no (fun h => by
              rcases h with h | h
              · exact z h
              · exact hx ((idx_self l i (by omega)).2 h.2.2.2))]
            exact Ev.now' (fun n => by rw [if_neg hx])
        · rw [no (fun h => by
            rcases h with h | h
            · exact z h
            · exact hino ⟨h.2.1, h.2.2.1⟩)]
          exact Ev.now' (fun n => by rw [if_neg hino])
      · rw [no (fun h => by
          rcases h with h | h
          · exact z h
          · exact hb h.1)]
        exact Ev.now' (fun n => by rw [if_neg hb])
theorem impl_blockok (b : Bool) (l : List S69) (t : ByteArray) (hl : l.length ≤ 1048576) (hn : ∀ x ∈ l, x.f0.size ≤ 140737488351232) : Ev (fun n => impl_BlockOk.f n b l t) (dB (BOk b l t)) := by
  unfold impl_BlockOk.f
  by_cases hb : b = true
  · simp only [if_pos hb]
    have e : dB (BOk b l t) = dB ((∀ j, 0 ≤ j → j < l.length → SOk l j) ∧ l.length = 4 ∧ t.toList = ([] : List UInt8)) := dB_congr (by
      unfold BOk
      rw [if_pos hb]
      exact ⟨fun h => ⟨fun j _ hj => h.1 j hj, h.2⟩, fun h => ⟨fun j hj => h.1 j (Nat.zero_le _) hj, h.2⟩⟩)
    rw [e]
    exact impl_block_loop b l t hl hn l.length 0 (Nat.zero_le _) (by omega)
  · simp only [if_neg hb]
    refine Ev.now' (fun _ => ?_)
    have e : dB (BOk b l t) = dB (l.length = 0 ∧ t.size ≤ 16) := dB_congr (by unfold BOk; rw [if_neg hb])
    rw [e]
    by_cases h0 : l.length = 0
    · rw [if_pos (by omega)]
      by_cases h16 : t.size ≤ 16
      · rw [dB_true ⟨h0, h16⟩, decide_eq_true (by omega)]
      · rw [dB_false (fun h => h16 h.2), decide_eq_false (by omega)]
    · rw [if_neg (by omega), dB_false (fun h => h0 h.1)]


theorem bytetexts_loop (p : List Int) (hp : p.length ≤ 1048576) (d : Nat) : ∀ (l : List Int) (i : Nat), i ≤ p.length → p.length - i = d → l = (p.take i).map (· % 256) → Ev (fun k => impl_byteTexts.l0 k l p (p.length : Int) (i : Int)) (strOfNums (p.map (· % 256))) := by
  induction d with
  | zero =>
    intro l i hi hd hl
    obtain rfl : i = p.length := by omega
    rw [List.take_length] at hl
    subst hl
    exact Ev.last (fun k => by simp only [impl_byteTexts.l0]; rw [if_neg (by omega)])
  | succ d ih =>
    intro l i hi hd hl
    have hlen : l.length = i := by rw [hl]; simp; omega
    refine Ev.step (fun k => ?_) (ih (l ++ [rd p (i : Int) % 256]) (i + 1) (by omega) (by omega) ?_)
    · simp only [impl_byteTexts.l0]
      rw [if_pos (by omega), if_pos (by omega), if_pos (by omega), if_pos (by omega), w64 (x := (i : Int) + 1) (by omega) (by omega)]
      rfl
    · have hr : rd p (i : Int) = p[i] := by
        unfold rd
        rw [Int.toNat_natCast, List.getD_eq_getElem?_getD, List.getElem?_eq_getElem (by omega)]
        rfl
      rw [List.take_succ_eq_append_getElem (by omega), List.map_append, ← hl, hr]
      rfl
theorem bytetexts_ev (p : List Int) (hp : p.length ≤ 1048576) : Ev (fun k => impl_byteTexts.f k p) (strOfNums (p.map (· % 256))) :=
  bytetexts_loop p hp p.length [] 0 (by omega) (by omega) (by simp)
/-- The bytes of a number as VarText writes them. -/
def venc (n : Nat) : List Int := if n > 127 then (((n % 128 + 128 : Nat)) : Int) :: venc (n / 128) else [(n : Int)]
termination_by n
decreasing_by omega
theorem venc_length (n : Nat) : (venc n).length ≤ n + 1 := by
  induction n using Nat.strongRecOn with
  | _ n ih =>
    unfold venc
    by_cases h : n > 127
    · rw [if_pos h]
      have := ih (n / 128) (by omega)
      simp only [List.length_cons]
      omega
    · rw [if_neg h]
      simp
theorem venc_range (n : Nat) : ∀ x ∈ venc n, 0 ≤ x ∧ x ≤ 255 := by
  induction n using Nat.strongRecOn with
  | _ n ih =>
    intro x hx
    unfold venc at hx
    by_cases h : n > 127
    · rw [if_pos h] at hx
      rcases List.mem_cons.1 hx with rfl | hx
      · omega
      · exact ih (n / 128) (by omega) x hx
    · rw [if_neg h] at hx
      rw [List.mem_singleton.1 hx]
      omega

theorem vartext_loop (d : Nat) : ∀ (k n : Nat) (l : List Int), n < d → d ≤ k → l.length + n ≤ 1000000000 → impl_VarText.l0 k (n : Int) l = some (strOfNums (l ++ venc n), true) := by
  induction d with
  | zero => intro k n l hd; omega
  | succ d ih =>
    intro k n l hd hk hl
    obtain ⟨k, rfl⟩ : ∃ m, k = m + 1 := ⟨k - 1, by omega⟩
    simp only [impl_VarText.l0]
    unfold venc
    by_cases hb : n > 127
    · have e1 : Int.tdiv (n : Int) 128 = ((n / 128 : Nat) : Int) := by rw [tdiv_nn (by omega)]; omega
      have e3 : (wrap64 (Int.tmod (n : Int) 128 + 128)) % 256 = ((n % 128 + 128 : Nat) : Int) := by
        rw [tmod_nn (by omega), w64 (by omega) (by omega)]
        omega
      rw [if_pos (show (n : Int) > 127 by omega), if_pos (by omega), e1, w64 (by omega) (by omega), e3, ih k (n / 128) _ (by omega) (by omega) (by simp; omega), if_pos hb]
      simp
    · rw [if_neg (show ¬ (n : Int) > 127 by omega), if_pos (by omega), if_neg hb, show (n : Int) % 256 = n by omega]
theorem vartext_ev (n : Nat) (h : n ≤ 1000000000) : Ev (fun k => impl_VarText.f k (n : Int)) (strOfNums (venc n), true) :=
  Ev.at_ (n + 1) (fun k hk => by
    unfold impl_VarText.f
    rw [within_eq, decide_eq_true (by omega)]
    simp only [Option.bind_some, if_true]
    rw [vartext_loop (n + 1) k n [] (by omega) hk (by simp; omega)]
    simp)
theorem shorttext_ev (s : ByteArray) (h : s.size ≤ 20000) : Ev (fun k => impl_ShortText.f k s) (strOfNums (venc s.size) ++ s, true) := by
  unfold impl_ShortText.f
  simp only [if_neg (show ¬ (s.size : Int) > 20000 by omega)]
  have hv := venc_length s.size
  refine Ev.bind (vartext_ev s.size (by omega)) (Ev.now' fun _ => ?_)
  simp only [strOfNums_size]
  rw [if_pos (by omega)]

theorem l01var_loop (d : Nat) : ∀ (k n : Nat) (l : List Int), n < d → d ≤ k → l.length + n ≤ 1000000000 → spec_l01Var.l0 k (n : Int) l = some (strOfNums (l ++ venc n)) := by
  induction d with
  | zero => intro k n l hd; omega
  | succ d ih =>
    intro k n l hd hk hl
    obtain ⟨k, rfl⟩ : ∃ m, k = m + 1 := ⟨k - 1, by omega⟩
    simp only [spec_l01Var.l0]
    unfold venc
    by_cases hb : n > 127
    · have e1 : Int.tdiv (n : Int) 128 = ((n / 128 : Nat) : Int) := by rw [tdiv_nn (by omega)]; omega
      have e3 : (wrap64 (Int.tmod (n : Int) 128 + 128)) % 256 = ((n % 128 + 128 : Nat) : Int) := by
        rw [tmod_nn (by omega), w64 (by omega) (by omega)]
        omega
      rw [if_pos (show (n : Int) > 127 by omega), if_pos (by omega), e1, w64 (by omega) (by omega), e3, ih k (n / 128) _ (by omega) (by omega) (by simp; omega), if_pos hb]
      simp
    · rw [if_neg (show ¬ (n : Int) > 127 by omega), if_pos (by omega), if_neg hb, show (n : Int) % 256 = n by omega]
theorem l01var_ev (n : Nat) (h : n ≤ 1000000000) : Ev (fun k => spec_l01Var.f k (n : Int)) (strOfNums (venc n)) :=
  Ev.at_ (n + 1) (fun k hk => by
    unfold spec_l01Var.f
    rw [l01var_loop (n + 1) k n [] (by omega) hk (by simp; omega)]
    simp)

theorem app_assoc (a b c : ByteArray) : a ++ b ++ c = a ++ (b ++ c) := by
  apply toList_inj
  simp only [Go.Lib.toList_data, ByteArray.data_append, Array.toList_append, List.append_assoc]
/-- A slot's bytes in a block's text. -/
def slotEnc (x : S69) : ByteArray := strOfNums [x.f1 % 256] ++ (strOfNums (venc x.f0.size) ++ x.f0)
theorem slotEnc_size (x : S69) (h : x.f0.size ≤ 6) : (slotEnc x).size ≤ 14 := by
  unfold slotEnc
  have := venc_length x.f0.size
  rw [ByteArray.size_append, ByteArray.size_append, strOfNums_size, strOfNums_size]
  simp only [List.length_singleton]
  omega
/-- What both BlockTexts answer. -/
noncomputable def BT (b : Bool) (l : List S69) (t : ByteArray) : ByteArray × Bool := if dB (BOk b l t) = true then (if b = true then (l.foldl (fun a x => a ++ slotEnc x) ⟨#[100]⟩, true) else ((⟨#[116]⟩ : ByteArray) ++ t, true)) else (⟨#[]⟩, false)
theorem size_of_toList {s : ByteArray} (h : s.toList = ([] : List UInt8)) : s.size = 0 := by
  rw [Go.Lib.toList_data] at h
  have h2 : s.data.toList.length = 0 := by rw [h]; rfl
  rw [Array.length_toList] at h2
  exact h2
theorem BOk_small {b : Bool} {l : List S69} {t : ByteArray} (hn : ∀ x ∈ l, x.f0.size ≤ 140737488351232) (hb : b = true) (h : BOk b l t) : l.length = 4 ∧ ∀ x ∈ l, x.f0.size ≤ 6 := by
  unfold BOk at h
  rw [if_pos hb] at h
  refine ⟨h.2.1, fun x hx => ?_⟩
  obtain ⟨j, hj, e⟩ := List.mem_iff_getElem.1 hx
  have e2 : l.getD j z69 = x := by rw [List.getD_eq_getElem?_getD, List.getElem?_eq_getElem hj, ← e]; rfl
  have := h.1 j hj
  unfold SOk at this
  rw [e2] at this
  rcases this with h1 | h1
  · have := size_of_toList h1.1
    omega
  · exact (name_size _ (hn x hx) h1.1).2
theorem drop_getD (l : List S69) (i : Nat) (h : i < l.length) : l.drop i = l.getD i z69 :: l.drop (i + 1) := by
  rw [List.drop_eq_getElem_cons h, List.getD_eq_getElem?_getD, List.getElem?_eq_getElem h]
  rfl
theorem spec_blocktext_loop (b : Bool) (l : List S69) (t : ByteArray) (hl : l.length = 4) (hs : ∀ x ∈ l, x.f0.size ≤ 6) (d : Nat) : ∀ (i : Nat) (a : ByteArray), i ≤ 4 → 4 - i = d → a.size + 20 * d ≤ 1000 → Ev (fun k => spec_BlockText.l0 k a i b l t) ((l.drop i).foldl (fun a x => a ++ slotEnc x) a, true) := by
  induction d with
  | zero =>
    intro i a h4 hd ha
    rw [List.drop_of_length_le (by omega)]
    exact Ev.last (fun k => by simp only [spec_BlockText.l0]; rw [if_neg (by omega)]; rfl)
  | succ d ih =>
    intro i a h4 hd ha
    have hw : wrap64 ((i : Int) + 1) = ((i + 1 : Nat) : Int) := by rw [w64 (by omega) (by omega)]; omega
    have hx := hs _ (getD_mem (xs := l) (i := i) z69 (by omega))
    have hsz := slotEnc_size _ hx
    have hv := venc_length (l.getD i z69).f0.size
    have hst := ih (i + 1) (a ++ slotEnc (l.getD i z69)) (by omega) (by omega) (by rw [ByteArray.size_append]; omega)
    rw [drop_getD l i (by omega), List.foldl_cons]
    have key : ∀ k, spec_BlockText.l0 (k + 1) a i b l t = (spec_l01Var.f k ((l.getD i z69).f0.size : Int)).bind (fun v => if (a ++ strOfNums [(l.getD i z69).f1 % 256]).size + v.size ≤ 9223372036854775807 then (if ((a ++ strOfNums [(l.getD i z69).f1 % 256]) ++ v).size + (l.getD i z69).f0.size ≤ 9223372036854775807 then spec_BlockText.l0 k (((a ++ strOfNums [(l.getD i z69).f1 % 256]) ++ v) ++ (l.getD i z69).f0) ((i + 1 : Nat) : Int) b l t else none) else none) := fun k => by
      simp only [spec_BlockText.l0, Option.bind_some]
      rw [if_pos (by omega), if_pos (by omega), if_pos (by omega), if_pos (by rw [strOfNums_size]; simp only [List.length_singleton]; omega), hw]
      rfl
    refine Ev.step key (Ev.bind (l01var_ev _ (by omega)) (Ev.congr (fun k => ?_) hst))
    rw [if_pos (by rw [ByteArray.size_append, strOfNums_size, strOfNums_size]; simp only [List.length_singleton]; omega), if_pos (by rw [ByteArray.size_append, ByteArray.size_append, strOfNums_size, strOfNums_size]; simp only [List.length_singleton]; omega)]
    have e : a ++ strOfNums [(l.getD i z69).f1 % 256] ++ strOfNums (venc (l.getD i z69).f0.size) ++ (l.getD i z69).f0 = a ++ slotEnc (l.getD i z69) := by
      unfold slotEnc
      rw [app_assoc, app_assoc]
    rw [e]
theorem spec_blocktext (b : Bool) (l : List S69) (t : ByteArray) (hn : ∀ x ∈ l, x.f0.size ≤ 140737488351232) : Ev (fun k => spec_BlockText.f k b l t) (BT b l t) := by
  unfold spec_BlockText.f BT
  refine Ev.bind (spec_blockok b l t hn) ?_
  by_cases h : dB (BOk b l t) = true
  · simp only [if_pos h]
    by_cases hb : b = true
    · simp only [if_pos hb]
      obtain ⟨h4, hs⟩ := BOk_small hn hb (of_dB h)
      have := spec_blocktext_loop b l t h4 hs 4 0 ⟨#[100]⟩ (by omega) (by omega) (by decide)
      rw [List.drop_zero] at this
      exact this
    · simp only [if_neg hb]
      have h16 := of_dB h
      unfold BOk at h16
      rw [if_neg hb] at h16
      exact Ev.now' fun _ => by rw [if_pos (by omega)]
  · simp only [if_neg h]
    exact Ev.now _
theorem impl_blocktext_loop (l : List S69) (hl : l.length = 4) (hs : ∀ x ∈ l, x.f0.size ≤ 6) (d : Nat) : ∀ (i : Nat) (a : ByteArray), i ≤ 4 → 4 - i = d → a.size + 20 * d ≤ 1000 → Ev (fun k => impl_BlockText.l0 k a l (l.length : Int) i) ((l.drop i).foldl (fun a x => a ++ slotEnc x) a, true) := by
  induction d with
  | zero =>
    intro i a h4 hd ha
    rw [List.drop_of_length_le (by omega)]
    exact Ev.last (fun k => by simp only [impl_BlockText.l0]; rw [if_neg (by omega)]; rfl)
  | succ d ih =>
    intro i a h4 hd ha
    have hw : wrap64 ((i : Int) + 1) = ((i + 1 : Nat) : Int) := by rw [w64 (by omega) (by omega)]; omega
    have hx := hs _ (getD_mem (xs := l) (i := i) z69 (by omega))
    have hsz := slotEnc_size _ hx
    have hv := venc_length (l.getD i z69).f0.size
    have hst := ih (i + 1) (a ++ slotEnc (l.getD i z69)) (by omega) (by omega) (by rw [ByteArray.size_append]; omega)
    rw [drop_getD l i (by omega), List.foldl_cons]
    have key : ∀ k, impl_BlockText.l0 (k + 1) a l (l.length : Int) i = (impl_ShortText.f k (l.getD i z69).f0).bind (fun q => (impl_byteTexts.f k [(l.getD i z69).f1]).bind (fun v => if v.size + q.1.size ≤ 9223372036854775807 then (if a.size + (v ++ q.1).size ≤ 9223372036854775807 then impl_BlockText.l0 k (a ++ (v ++ q.1)) l (l.length : Int) ((i + 1 : Nat) : Int) else none) else none)) := fun k => by
      simp only [impl_BlockText.l0]
      rw [if_pos (by omega), if_pos (by omega), if_pos (by omega), hw]
      rfl
    refine Ev.step key (Ev.bind (shorttext_ev _ (by omega)) (Ev.bind (bytetexts_ev [(l.getD i z69).f1] (by simp)) (Ev.congr (fun k => ?_) hst)))
    have e : strOfNums ([(l.getD i z69).f1].map (· % 256)) ++ (strOfNums (venc (l.getD i z69).f0.size) ++ (l.getD i z69).f0) = slotEnc (l.getD i z69) := rfl
    simp only [e]
    rw [if_pos (by rw [ByteArray.size_append, strOfNums_size, strOfNums_size]; simp only [List.length_map, List.length_singleton]; omega), if_pos (by omega)]
theorem impl_blocktext (b : Bool) (l : List S69) (t : ByteArray) (hl : l.length ≤ 1048576) (hn : ∀ x ∈ l, x.f0.size ≤ 140737488351232) : Ev (fun k => impl_BlockText.f k b l t) (BT b l t) := by
  unfold impl_BlockText.f BT
  refine Ev.bind (impl_blockok b l t hl hn) ?_
  by_cases h : dB (BOk b l t) = true
  · simp only [if_pos h]
    by_cases hb : b = true
    · simp only [if_pos hb]
      obtain ⟨h4, hs⟩ := BOk_small hn hb (of_dB h)
      have := impl_blocktext_loop l h4 hs 4 0 ⟨#[100]⟩ (by omega) (by omega) (by decide)
      rw [List.drop_zero] at this
      exact this
    · simp only [if_neg hb]
      have h16 := of_dB h
      unfold BOk at h16
      rw [if_neg hb] at h16
      exact Ev.now' fun _ => by rw [if_pos (by omega)]
  · simp only [if_neg h]
    exact Ev.now _

theorem size_extract (s : ByteArray) (i j : Nat) (hj : j ≤ s.size) : (s.extract i j).size = j - i := by
  rw [ByteArray.size_extract]
  omega
/-- The number that bytes of this form hold. -/
def vval : List Int → Nat
  | [] => 0
  | b :: r => (b % 128).toNat + 128 * vval r
theorem vval_snoc (l : List Int) (c : Int) : vval (l ++ [c]) = vval l + (c % 128).toNat * 128 ^ l.length := by
  induction l with
  | nil => simp [vval]
  | cons b r ih =>
    simp only [List.cons_append, vval, ih, List.length_cons, Nat.pow_succ]
    rw [Nat.mul_add, Nat.add_assoc]
    congr 2
    rw [Nat.mul_comm 128, Nat.mul_assoc]
theorem venc_last (n : Nat) : ∃ l c, venc n = l ++ [c] ∧ c < 128 ∧ (l = [] ∨ c ≠ 0) := by
  induction n using Nat.strongRecOn with
  | _ n ih =>
    unfold venc
    by_cases h : n > 127
    · rw [if_pos h]
      obtain ⟨l, c, e, hc, hl⟩ := ih (n / 128) (by omega)
      refine ⟨_ :: l, c, by rw [e]; rfl, hc, .inr ?_⟩
      rcases hl with rfl | hl
      · intro h0
        subst h0
        have : venc (n / 128) = [0] := by rw [e]; rfl
        unfold venc at this
        by_cases h2 : n / 128 > 127
        · rw [if_pos h2] at this
          injection this with a b
          omega
        · rw [if_neg h2] at this
          injection this with a b
          omega
      · exact hl
    · rw [if_neg h]
      exact ⟨[], _, rfl, by omega, .inl rfl⟩
theorem vval_venc (l : List Int) (c : Int) (hl : ∀ x ∈ l, 128 ≤ x ∧ x ≤ 255) (h0 : 0 ≤ c) (h1 : c < 128) (h : l = [] ∨ c ≠ 0) : venc (vval (l ++ [c])) = l ++ [c] := by
  induction l with
  | nil =>
    simp only [List.nil_append, vval]
    unfold venc
    rw [if_neg (by omega), show c % 128 = c by omega]
    simp
    omega
  | cons b r ih =>
    have hb := hl b List.mem_cons_self
    have hpos : 1 ≤ vval (r ++ [c]) := by
      rw [vval_snoc]
      have hc : 1 ≤ (c % 128).toNat := by
        rcases h with h | h
        · cases h
        · omega
      have hp : 0 < 128 ^ r.length := Nat.pow_pos (by decide)
      have := Nat.mul_le_mul hc hp
      omega
    have ihr := ih (fun x hx => hl x (List.mem_cons_of_mem _ hx)) (.inr (by rcases h with h | h; cases h; exact h))
    simp only [List.cons_append, vval]
    unfold venc
    rw [if_pos (by omega), show ((b % 128).toNat + 128 * vval (r ++ [c])) / 128 = vval (r ++ [c]) by omega, ihr, show ((b % 128).toNat + 128 * vval (r ++ [c])) % 128 = (b % 128).toNat by omega]
    congr 1
    omega
theorem venc_iff (l : List Int) (c : Int) (hl : ∀ x ∈ l, 128 ≤ x ∧ x ≤ 255) (h0 : 0 ≤ c) (h1 : c < 128) : venc (vval (l ++ [c])) = l ++ [c] ↔ (l = [] ∨ c ≠ 0) := by
  constructor
  · intro h
    obtain ⟨l', c', e, _, hc⟩ := venc_last (vval (l ++ [c]))
    rw [e] at h
    obtain ⟨rfl, h2⟩ := List.append_inj' h rfl
    injection h2 with h2
    rw [← h2]
    exact hc
  · exact vval_venc l c hl h0 h1
theorem vval_lt (l : List Int) : vval l < 128 ^ l.length := by
  induction l with
  | nil => simp [vval]
  | cons b r ih =>
    simp only [vval, List.length_cons, Nat.pow_succ]
    omega
/-- m bytes from a on. -/
def bs (s : ByteArray) (a : Nat) (m : Nat) : List Int := (List.range m).map fun t => bt s ((a + t : Nat) : Int)
theorem bs_length (s : ByteArray) (a m : Nat) : (bs s a m).length = m := by simp [bs]
theorem bs_snoc (s : ByteArray) (a m : Nat) : bs s a (m + 1) = bs s a m ++ [bt s ((a + m : Nat) : Int)] := by
  simp [bs, List.range_succ]
theorem bt_nat (s : ByteArray) (i : Nat) (h : i < s.size) : s.data.toList[i]? = some (UInt8.ofNat (bt s ((i : Nat) : Int)).toNat) := by
  have hl : i < s.data.toList.length := by rw [Array.length_toList]; exact h
  rw [List.getElem?_eq_getElem hl]
  congr 1
  unfold bt
  rw [dif_pos (by simpa using h)]
  simp only [Int.toNat_natCast, Array.getElem_toList]
  exact (UInt8.ofNat_toNat (x := s.data[i])).symm
theorem extract_bs (s : ByteArray) (a m : Nat) (h : a + m ≤ s.size) : (s.extract a (a + m)).data.toList = (bs s a m).map fun n => UInt8.ofNat n.toNat := by
  induction m with
  | zero => rw [Go.Lib.extract_data]; simp [bs]
  | succ m ih =>
    have ih := ih (by omega)
    rw [Go.Lib.extract_data] at ih ⊢
    rw [show a + m - a = m by omega] at ih
    rw [show a + (m + 1) - a = m + 1 by omega, List.take_add_one, ih, bs_snoc, List.map_append, List.getElem?_drop, bt_nat s (a + m) (by omega)]
    rfl
theorem strOfNums_inj (l l' : List Int) (h : ∀ x ∈ l, 0 ≤ x ∧ x ≤ 255) (h' : ∀ x ∈ l', 0 ≤ x ∧ x ≤ 255) (e : (l.map fun n => UInt8.ofNat n.toNat) = (l'.map fun n => UInt8.ofNat n.toNat)) : l = l' := by
  induction l generalizing l' with
  | nil =>
    cases l' with
    | nil => rfl
    | cons _ _ => simp at e
  | cons x r ih =>
    cases l' with
    | nil => simp at e
    | cons y r' =>
      simp only [List.map_cons, List.cons.injEq] at e
      have hx := h x List.mem_cons_self
      have hy := h' y List.mem_cons_self
      have e1 := congrArg UInt8.toNat e.1
      rw [UInt8.toNat_ofNat', UInt8.toNat_ofNat', Nat.mod_eq_of_lt (by omega), Nat.mod_eq_of_lt (by omega)] at e1
      have exy : x = y := by omega
      rw [exy, ih r' (fun z hz => h z (List.mem_cons_of_mem _ hz)) (fun z hz => h' z (List.mem_cons_of_mem _ hz)) e.2]
theorem bs_range (s : ByteArray) (a m : Nat) : ∀ x ∈ bs s a m, 0 ≤ x ∧ x ≤ 255 := by
  intro x hx
  obtain ⟨t, _, rfl⟩ := List.mem_map.1 hx
  exact bt_range s _
theorem venc_is (s : ByteArray) (a m n : Nat) (h : a + m ≤ s.size) : (strOfNums (venc n)).toList = (s.extract a (a + m)).toList ↔ venc n = bs s a m := by
  rw [Go.Lib.toList_data, Go.Lib.toList_data, extract_bs s a m h, strOfNums_data]
  constructor
  · exact strOfNums_inj _ _ (venc_range n) (bs_range s a m)
  · intro e
    rw [e]
theorem pow_le4 (j : Nat) (h : j ≤ 4) : (128 : Nat) ^ j ≤ 268435456 ∧ 1 ≤ (128 : Nat) ^ j := by
  obtain rfl | rfl | rfl | rfl | rfl : j = 0 ∨ j = 1 ∨ j = 2 ∨ j = 3 ∨ j = 4 := by omega
  all_goals decide
theorem mul_bound {x p : Nat} (hx : x ≤ 127) (hp : p ≤ 268435456) : x * p ≤ 34091302912 := by
  have := Nat.mul_le_mul hx hp
  omega
theorem shl_eq (x : Int) (j : Nat) (h0 : 0 ≤ x) (h1 : x ≤ 127) (hj : j ≤ 4) : shl .i64 x (7 * (j : Int)) = ((x.toNat * 128 ^ j : Nat) : Int) := by
  have hp := pow_le4 j hj
  have hb := mul_bound (x := x.toNat) (p := 128 ^ j) (by omega) hp.1
  have e : min (7 * (j : Int)).toNat IntKind.i64.bits = 7 * j := by
    have : IntKind.i64.bits = 64 := rfl
    omega
  unfold shl
  rw [e, Nat.mul_comm 7 j, show (2 : Int) ^ (j * 7) = ((128 ^ j : Nat) : Int) by
    rw [Nat.mul_comm, Int.pow_mul]; norm_cast]
  have ex : x * ((128 ^ j : Nat) : Int) = ((x.toNat * 128 ^ j : Nat) : Int) := by
    rw [Int.natCast_mul, Int.toNat_of_nonneg h0]
  rw [ex]
  exact (IntWalk.i64_in _ (by omega))
theorem spec_n (v m : Nat) (c p : Int) (hc0 : 0 ≤ c) (hc1 : c ≤ 255) (hm : c % 128 * p = (m : Int)) (hb : m ≤ 34091302912) (hv : v ≤ 268435456) : wrap64 ((v : Int) + wrap64 (Int.tmod (wrap64 c) 128 * p)) = ((v + m : Nat) : Int) := by
  rw [w64 (x := c) (by omega) (by omega), tmod_nn hc0, hm, w64 (x := (m : Int)) (by omega) (by omega), w64 (by omega) (by omega)]
  omega
theorem impl_n (v m : Nat) (c q : Int) (hc0 : 0 ≤ c) (hc1 : c ≤ 255) (hm : shl .i64 (c % 128) q = (m : Int)) (hb : m ≤ 34091302912) (hv : v ≤ 268435456) : wrap64 ((v : Int) + shl .i64 (Int.tmod (wrap64 c) 128) q) = ((v + m : Nat) : Int) := by
  rw [w64 (x := c) (by omega) (by omega), tmod_nn hc0, hm, w64 (by omega) (by omega)]
  omega
section
variable {s : ByteArray} {a j v v' k : Nat} {c p : Int}
theorem spec_into (hs : s.size ≤ 140737488351232) (hj : j ≤ 5) (hin : a + j < s.size) : spec_ReadVar.l0 (k + 1) s (a : Int) (v : Int) p ((a + j : Nat) : Int) = spec_ReadVar.j1 k s (a : Int) (v : Int) p ((a + j : Nat) : Int) (decide (j < 5)) := by
  simp only [spec_ReadVar.l0]
  rw [if_pos (by omega), w64 (x := (a : Int) + 5) (by omega) (by omega)]
  congr 1
  rw [decide_eq_decide]
  omega
theorem spec_out (hs : s.size ≤ 140737488351232) (hin : ¬ a + j < s.size) : spec_ReadVar.l0 (k + 1) s (a : Int) (v : Int) p ((a + j : Nat) : Int) = spec_ReadVar.j1 k s (a : Int) (v : Int) p ((a + j : Nat) : Int) false := by
  simp only [spec_ReadVar.l0]
  rw [if_neg (by omega)]
theorem spec_fail {x1 x7 x8 x9 : Int} : spec_ReadVar.j1 (k + 1) s x1 x7 x8 x9 false = some (0, 0, false) := by
  simp only [spec_ReadVar.j1]
  rfl
theorem impl_fail {x1 x7 x8 : Int} : impl_ReadVar.j1 (k + 1) s x1 x7 x8 false = some (0, 0, false) := by
  simp only [impl_ReadVar.j1]
  rfl
theorem impl_into (hs : s.size ≤ 140737488351232) (ha : a ≤ s.size) (hj : j < 5) : impl_ReadVar.l0 (k + 1) s (a : Int) (v : Int) (j : Int) = impl_ReadVar.j1 k s (a : Int) (v : Int) (j : Int) (decide (a + j < s.size)) := by
  simp only [impl_ReadVar.l0]
  rw [if_pos (by omega), w64 (x := (a : Int) + (j : Int)) (by omega) (by omega)]
  congr 1
  rw [decide_eq_decide]
  omega
theorem impl_out : impl_ReadVar.l0 (k + 1) s (a : Int) (v : Int) ((5 : Nat) : Int) = impl_ReadVar.j1 k s (a : Int) (v : Int) ((5 : Nat) : Int) false := by
  simp only [impl_ReadVar.l0]
  rw [if_neg (by omega)]
theorem spec_go (hs : s.size ≤ 140737488351232) (hin : a + j < s.size) (hcc : bt s ((a + j : Nat) : Int) = c) (hn : wrap64 ((v : Int) + wrap64 (Int.tmod (wrap64 c) 128 * p)) = (v' : Int)) (hbig : ¬ c < 128) : spec_ReadVar.j1 (k + 1) s (a : Int) (v : Int) p ((a + j : Nat) : Int) true = spec_ReadVar.l0 k s (a : Int) (v' : Int) (wrap64 (p * 128)) ((a + (j + 1) : Nat) : Int) := by
  have hn1 : wrap64 (((a + j : Nat) : Int) + 1) = ((a + (j + 1) : Nat) : Int) := by rw [w64 (by omega) (by omega)]; omega
  simp only [spec_ReadVar.j1, hcc, hn, hn1]
  rw [if_pos trivial, if_pos (by omega), if_pos (by omega), if_neg hbig]
theorem spec_max (hin : a + j < s.size) (hcc : bt s ((a + j : Nat) : Int) = c) (hn : wrap64 ((v : Int) + wrap64 (Int.tmod (wrap64 c) 128 * p)) = (v' : Int)) (hbig : c < 128) (hmx : v' > 1000000000) : spec_ReadVar.j1 (k + 1) s (a : Int) (v : Int) p ((a + j : Nat) : Int) true = some (0, 0, false) := by
  simp only [spec_ReadVar.j1, hcc, hn]
  rw [if_pos trivial, if_pos (by omega), if_pos (by omega), if_pos hbig, if_pos (by omega)]
theorem spec_end (hs : s.size ≤ 140737488351232) (hin : a + j < s.size) (hcc : bt s ((a + j : Nat) : Int) = c) (hn : wrap64 ((v : Int) + wrap64 (Int.tmod (wrap64 c) 128 * p)) = (v' : Int)) (hbig : c < 128) (hmx : ¬ v' > 1000000000) : spec_ReadVar.j1 (k + 1) s (a : Int) (v : Int) p ((a + j : Nat) : Int) true = (spec_l01Var.f k (v' : Int)).bind fun t => if t.toList = (s.extract a (a + (j + 1))).toList then some ((v' : Int), ((a + j + 1 : Nat) : Int), true) else some ((0 : Int), (0 : Int), false) := by
  have hn1 : wrap64 (((a + j : Nat) : Int) + 1) = ((a + j + 1 : Nat) : Int) := by rw [w64 (by omega) (by omega)]; omega
  simp only [spec_ReadVar.j1, hcc, hn, hn1]
  rw [if_pos trivial, if_pos (by omega), if_pos (by omega), if_pos hbig, if_neg (by omega)]
  rw [show ((a : Int)).toNat = a from Int.toNat_natCast a, show (((a + j + 1 : Nat) : Int)).toNat = a + (j + 1) from Int.toNat_natCast _]
  congr 1
  funext t
  rw [if_pos (by omega), if_pos (by omega), if_pos (by omega)]
theorem impl_go (hs : s.size ≤ 140737488351232) (hin : a + j < s.size) (hj : j ≤ 4) (hcc : bt s ((a + j : Nat) : Int) = c) (hc : 0 ≤ c ∧ c ≤ 255) (hn : wrap64 ((v : Int) + shl .i64 (Int.tmod (wrap64 c) 128) (7 * (j : Int))) = (v' : Int)) (hbig : ¬ c < 128) : impl_ReadVar.j1 (k + 1) s (a : Int) (v : Int) (j : Int) true = impl_ReadVar.l0 k s (a : Int) (v' : Int) ((j + 1 : Nat) : Int) := by
  have haj : wrap64 ((a : Int) + (j : Int)) = ((a + j : Nat) : Int) := by rw [w64 (by omega) (by omega)]; omega
  have h7 : wrap64 (7 * (j : Int)) = 7 * (j : Int) := w64 (by omega) (by omega)
  have hj1 : wrap64 ((j : Int) + 1) = ((j + 1 : Nat) : Int) := by rw [w64 (by omega) (by omega)]; omega
  have hw : wrap64 c = c := w64 (by omega) (by omega)
  simp only [impl_ReadVar.j1, haj, h7, hcc, hn, hj1, hw]
  simp only [hw] at hn
  rw [if_pos trivial, if_pos (by omega), if_pos (by omega), if_pos (by omega), if_pos (show c > 127 by omega), hn]
theorem impl_end (hs : s.size ≤ 140737488351232) (hin : a + j < s.size) (hj : j ≤ 4) (hcc : bt s ((a + j : Nat) : Int) = c) (hc : 0 ≤ c ∧ c ≤ 255) (hn : wrap64 ((v : Int) + shl .i64 (Int.tmod (wrap64 c) 128) (7 * (j : Int))) = (v' : Int)) (hbig : c < 128) : impl_ReadVar.j1 (k + 1) s (a : Int) (v : Int) (j : Int) true = if (0 < j ∧ c = 0) ∨ v' > 1000000000 then some (0, 0, false) else some ((v' : Int), ((a + j + 1 : Nat) : Int), true) := by
  have haj : wrap64 ((a : Int) + (j : Int)) = ((a + j : Nat) : Int) := by rw [w64 (by omega) (by omega)]; omega
  have h7 : wrap64 (7 * (j : Int)) = 7 * (j : Int) := w64 (by omega) (by omega)
  have hn1 : wrap64 (((a + j : Nat) : Int) + 1) = ((a + j + 1 : Nat) : Int) := by rw [w64 (by omega) (by omega)]; omega
  have hw : wrap64 c = c := w64 (by omega) (by omega)
  simp only [impl_ReadVar.j1, haj, h7, hcc, hn1, hw]
  simp only [hw] at hn
  rw [if_pos trivial, if_pos (by omega), if_pos (by omega), if_pos (by omega), if_neg (show ¬ c > 127 by omega), hn]
  by_cases h1 : (v' : Int) > 1000000000
  · rw [if_pos (show (0 < j ∧ c = 0) ∨ v' > 1000000000 by omega), if_pos h1]
    split
    · split <;> rfl
    · rfl
  · rw [if_neg h1]
    by_cases h2 : (j : Int) > 0
    · rw [if_pos h2]
      by_cases h3 : c = 0
      · rw [if_pos h3, if_pos (show (0 < j ∧ c = 0) ∨ v' > 1000000000 by omega)]
      · rw [if_neg h3, if_neg (show ¬ ((0 < j ∧ c = 0) ∨ v' > 1000000000) by omega)]
    · rw [if_neg h2, if_neg (show ¬ ((0 < j ∧ c = 0) ∨ v' > 1000000000) by omega)]
end
/-- What both answer: a number and a place that lie within their limits, or nothing. -/
def RvOk (s : ByteArray) (r : Int × Int × Bool) : Prop := r.2.2 = true → 0 ≤ r.1 ∧ r.1 ≤ 1000000000 ∧ 0 ≤ r.2.1 ∧ r.2.1 ≤ s.size
theorem rv_no (s : ByteArray) : RvOk s (0, 0, false) := fun h => by cases h
theorem readvar_loop (s : ByteArray) (hs : s.size ≤ 140737488351232) (a : Nat) (ha : a ≤ s.size) (d : Nat) : ∀ j : Nat, j ≤ 5 → 5 - j = d → a + j ≤ s.size → (∀ x ∈ bs s a j, 128 ≤ x ∧ x ≤ 255) →
    ∃ r : Int × Int × Bool, Ev (fun k => spec_ReadVar.l0 k s (a : Int) (vval (bs s a j) : Int) ((128 ^ j : Nat) : Int) ((a + j : Nat) : Int)) r ∧ Ev (fun k => impl_ReadVar.l0 k s (a : Int) (vval (bs s a j) : Int) (j : Int)) r ∧ RvOk s r := by
  induction d with
  | zero =>
    intro j h5 hd hsz hb
    obtain rfl : j = 5 := by omega
    refine ⟨(0, 0, false), ?_, ?_, rv_no s⟩
    · refine Ev.step (f := fun k => spec_ReadVar.j1 k s (a : Int) (vval (bs s a 5) : Int) ((128 ^ 5 : Nat) : Int) ((a + 5 : Nat) : Int) false) (fun k => ?_) (Ev.last fun k => spec_fail)
      by_cases hin : a + 5 < s.size
      · exact spec_into hs (by omega) hin
      · exact spec_out hs hin
    · exact Ev.step (f := fun k => impl_ReadVar.j1 k s (a : Int) (vval (bs s a 5) : Int) ((5 : Nat) : Int) false) (fun k => impl_out) (Ev.last fun k => impl_fail)
  | succ d ih =>
    intro j h5 hd hsz hb
    have hj4 : j ≤ 4 := by omega
    by_cases hin : a + j < s.size
    · have hp := pow_le4 j hj4
      have hv := vval_lt (bs s a j)
      rw [bs_length] at hv
      obtain ⟨c, hcc⟩ : ∃ c, bt s ((a + j : Nat) : Int) = c := ⟨_, rfl⟩
      have hc := bt_range s ((a + j : Nat) : Int)
      rw [hcc] at hc
      have hmb := mul_bound (x := (c % 128).toNat) (p := 128 ^ j) (by omega) hp.1
      have hvb : vval (bs s a j) ≤ 268435456 := by omega
      have hn' : vval (bs s a (j + 1)) = vval (bs s a j) + (c % 128).toNat * 128 ^ j := by rw [bs_snoc, vval_snoc, bs_length, hcc]
      have hm1 : c % 128 * ((128 ^ j : Nat) : Int) = (((c % 128).toNat * 128 ^ j : Nat) : Int) := by
        rw [Int.natCast_mul, Int.toNat_of_nonneg (by omega)]
      have hspec := spec_n (vval (bs s a j)) _ c _ hc.1 hc.2 hm1 hmb hvb
      have himpl := impl_n (vval (bs s a j)) _ c _ hc.1 hc.2 (shl_eq (c % 128) j (by omega) (by omega) hj4) hmb hvb
      rw [← hn'] at hspec himpl
      have hpb : wrap64 (((128 ^ j : Nat) : Int) * 128) = ((128 ^ (j + 1) : Nat) : Int) := by
        rw [Nat.pow_succ, w64 (by omega) (by omega)]
        omega
      have spec0 : ∀ r, Ev (fun k => spec_ReadVar.j1 k s (a : Int) (vval (bs s a j) : Int) ((128 ^ j : Nat) : Int) ((a + j : Nat) : Int) true) r → Ev (fun k => spec_ReadVar.l0 k s (a : Int) (vval (bs s a j) : Int) ((128 ^ j : Nat) : Int) ((a + j : Nat) : Int)) r := fun r h =>
        Ev.step (fun k => by rw [spec_into hs h5 hin, decide_eq_true (by omega)]) h
      have impl0 : ∀ r, Ev (fun k => impl_ReadVar.j1 k s (a : Int) (vval (bs s a j) : Int) (j : Int) true) r → Ev (fun k => impl_ReadVar.l0 k s (a : Int) (vval (bs s a j) : Int) (j : Int)) r := fun r h =>
        Ev.step (fun k => by rw [impl_into hs ha (by omega), decide_eq_true hin]) h
      clear hmb hm1 hp hv hvb
      by_cases hbig : c < 128
      · by_cases hmx : vval (bs s a (j + 1)) > 1000000000
        · exact ⟨(0, 0, false), spec0 _ (Ev.last fun k => spec_max hin hcc hspec hbig hmx), impl0 _ (Ev.last fun k => by rw [impl_end hs hin hj4 hcc hc himpl hbig, if_pos (.inr hmx)]), rv_no s⟩
        · have hiff := venc_is s a (j + 1) (vval (bs s a (j + 1))) (by omega)
          have hiff2 : venc (vval (bs s a (j + 1))) = bs s a (j + 1) ↔ (bs s a j = [] ∨ c ≠ 0) := by
            rw [bs_snoc, hcc]
            exact venc_iff _ _ hb hc.1 hbig
          have hnil : bs s a j = [] ↔ ¬ 0 < j := by
            have hl := bs_length s a j
            constructor
            · intro e
              rw [e] at hl
              simp at hl
              omega
            · intro h
              obtain rfl : j = 0 := by omega
              rfl
          have hev := l01var_ev (vval (bs s a (j + 1))) (by omega)
          by_cases hok : bs s a j = [] ∨ c ≠ 0
          · refine ⟨((vval (bs s a (j + 1)) : Int), ((a + j + 1 : Nat) : Int), true), spec0 _ (Ev.step (fun k => spec_end hs hin hcc hspec hbig hmx) (Ev.bind hev (Ev.now' fun _ => by rw [if_pos (hiff.2 (hiff2.2 hok))]))), impl0 _ (Ev.last fun k => ?_), fun _ => ⟨by simp only; omega, by simp only; omega, by simp only; omega, by simp only; omega⟩⟩
            rw [impl_end hs hin hj4 hcc hc himpl hbig, if_neg]
            rintro (⟨h1, h2⟩ | h)
            · rcases hok with h | h
              · exact hnil.1 h h1
              · exact h h2
            · exact hmx h
          · refine ⟨(0, 0, false), spec0 _ (Ev.step (fun k => spec_end hs hin hcc hspec hbig hmx) (Ev.bind hev (Ev.now' fun _ => by rw [if_neg (fun h => hok (hiff2.1 (hiff.1 h)))]))), impl0 _ (Ev.last fun k => ?_), rv_no s⟩
            rw [impl_end hs hin hj4 hcc hc himpl hbig, if_pos]
            exact .inl ⟨Decidable.byContradiction fun h => hok (.inl (hnil.2 h)), Decidable.byContradiction fun h => hok (.inr h)⟩
      · obtain ⟨r, hr1, hr2, hr3⟩ := ih (j + 1) (by omega) (by omega) (by omega) (by
          rw [bs_snoc, hcc]
          intro x hx
          rcases List.mem_append.1 hx with hx | hx
          · exact hb x hx
          · rw [List.mem_singleton.1 hx]
            omega)
        exact ⟨r, spec0 _ (Ev.step (fun k => by rw [spec_go hs hin hcc hspec hbig, hpb]) hr1), impl0 _ (Ev.step (fun k => impl_go hs hin hj4 hcc hc himpl hbig) hr2), hr3⟩
    · refine ⟨(0, 0, false), ?_, ?_, rv_no s⟩
      · exact Ev.step (f := fun k => spec_ReadVar.j1 k s (a : Int) (vval (bs s a j) : Int) ((128 ^ j : Nat) : Int) ((a + j : Nat) : Int) false) (fun k => spec_out hs hin) (Ev.last fun k => spec_fail)
      · exact Ev.step (f := fun k => impl_ReadVar.j1 k s (a : Int) (vval (bs s a j) : Int) (j : Int) false) (fun k => by rw [impl_into hs ha (by omega), decide_eq_false hin]) (Ev.last fun k => impl_fail)
theorem readvar_ev (s : ByteArray) (hs : s.size ≤ 140737488351232) (a : Int) : ∃ r : Int × Int × Bool, Ev (fun k => spec_ReadVar.f k s a) r ∧ Ev (fun k => impl_ReadVar.f k s a) r ∧ RvOk s r := by
  by_cases h : 0 ≤ a ∧ a ≤ s.size
  · obtain ⟨n, rfl⟩ := Int.eq_ofNat_of_zero_le h.1
    obtain ⟨r, h1, h2, h3⟩ := readvar_loop s hs n (by omega) 5 0 (by omega) (by omega) (by omega) (by simp [bs])
    refine ⟨r, ?_, ?_, h3⟩
    · unfold spec_ReadVar.f
      simp only [in_eq, decide_eq_true h, Option.bind_some, if_true]
      exact h1
    · unfold impl_ReadVar.f
      simp only [within_eq, decide_eq_true h, Option.bind_some, if_true]
      exact h2
  · refine ⟨(0, 0, false), Ev.now' fun k => ?_, Ev.now' fun k => ?_, rv_no s⟩
    · unfold spec_ReadVar.f
      rw [in_eq, decide_eq_false h]
      rfl
    · unfold impl_ReadVar.f
      rw [within_eq, decide_eq_false h]
      rfl

theorem readshort_ev (s : ByteArray) (hs : s.size ≤ 140737488351232) (a : Int) : ∃ r : ByteArray × Int × Bool, Ev (fun k => spec_ReadShort.f k s a) r ∧ Ev (fun k => impl_ReadShort.f k s a) r ∧ (r.2.2 = true → r.1.size ≤ 20000 ∧ 0 ≤ r.2.1 ∧ r.2.1 ≤ s.size) := by
  obtain ⟨⟨n, next, ok⟩, h1, h2, h3⟩ := readvar_ev s hs a
  cases ok with
  | false =>
    refine ⟨(⟨#[]⟩, 0, false), ?_, ?_, fun h => by cases h⟩
    · unfold spec_ReadShort.f
      exact Ev.bind h1 (Ev.now' fun _ => rfl)
    · unfold impl_ReadShort.f
      exact Ev.bind h2 (Ev.now' fun _ => rfl)
  | true =>
    obtain ⟨n0, n1, x0, x1⟩ := h3 rfl
    simp only at n0 n1 x0 x1
    have hw : wrap64 ((s.size : Int) - next) = (s.size : Int) - next := w64 (by omega) (by omega)
    have hw2 : wrap64 (next + n) = next + n := w64 (by omega) (by omega)
    by_cases hbad : n > 20000 ∨ n > (s.size : Int) - next
    · refine ⟨(⟨#[]⟩, 0, false), ?_, ?_, fun h => by cases h⟩
      · unfold spec_ReadShort.f
        refine Ev.bind h1 (Ev.now' fun _ => ?_)
        simp only [hw]
        rw [if_pos trivial]
        by_cases h : n > 20000
        · rw [if_pos h]
        · rw [if_neg h, if_pos (by omega)]
      · unfold impl_ReadShort.f
        refine Ev.bind h2 (Ev.now' fun _ => ?_)
        simp only [hw]
        rw [if_pos trivial]
        by_cases h : n > 20000
        · rw [if_pos h]
        · rw [if_neg h, if_pos (by omega)]
    · refine ⟨(s.extract next.toNat (next + n).toNat, next + n, true), ?_, ?_, fun _ => ⟨?_, by simp only; omega, by simp only; omega⟩⟩
      · unfold spec_ReadShort.f
        refine Ev.bind h1 (Ev.now' fun _ => ?_)
        simp only [hw, hw2]
        rw [if_pos trivial, if_neg (by omega), if_neg (by omega), if_pos (by omega), if_pos (by omega), if_pos (by omega)]
      · unfold impl_ReadShort.f
        refine Ev.bind h2 (Ev.now' fun _ => ?_)
        simp only [hw, hw2]
        rw [if_pos trivial, if_neg (by omega), if_neg (by omega), if_pos (by omega), if_pos (by omega), if_pos (by omega)]
      · simp only
        rw [size_extract _ _ _ (by omega)]
        omega

theorem Ev.uniq {α : Type} {g : Nat → Option α} {r r' : α} (h : Ev g r) (h' : Ev g r') : r = r' := by
  obtain ⟨K, hK⟩ := h
  obtain ⟨K', hK'⟩ := h'
  have a := hK (max K K') (Nat.le_max_left _ _)
  rw [hK' (max K K') (Nat.le_max_right _ _)] at a
  exact (Option.some.inj a).symm

theorem readvar_out (s : ByteArray) (hs : s.size ≤ 140737488351232) (a : Int) (ha : ¬ (0 ≤ a ∧ a < s.size)) : Ev (fun k => impl_ReadVar.f k s a) (0, 0, false) := by
  unfold impl_ReadVar.f
  by_cases h : 0 ≤ a ∧ a ≤ (s.size : Int)
  · have e : a = s.size := by omega
    simp only [within_eq, Option.bind_some, decide_eq_true h, if_true]
    refine Ev.step (f := fun k => impl_ReadVar.j1 k s a 0 0 false) (fun k => ?_) (Ev.last fun k => impl_fail)
    simp only [impl_ReadVar.l0]
    rw [if_pos (by omega), decide_eq_false (by rw [w64 (by omega) (by omega)]; omega)]
  · exact Ev.now' fun k => by
      simp only [within_eq, Option.bind_some, decide_eq_false h]
      rfl
theorem readshort_in (s : ByteArray) (hs : s.size ≤ 140737488351232) (a : Int) : ∃ r : ByteArray × Int × Bool, Ev (fun k => spec_ReadShort.f k s a) r ∧ Ev (fun k => impl_ReadShort.f k s a) r ∧ (r.2.2 = true → r.1.size ≤ 20000 ∧ 0 ≤ r.2.1 ∧ r.2.1 ≤ s.size ∧ 0 ≤ a ∧ a < s.size) := by
  obtain ⟨r, h1, h2, h3⟩ := readshort_ev s hs a
  refine ⟨r, h1, h2, fun hr => ?_⟩
  by_cases ha : 0 ≤ a ∧ a < (s.size : Int)
  · obtain ⟨q1, q2, q3⟩ := h3 hr
    exact ⟨q1, q2, q3, ha⟩
  · have h4 : Ev (fun k => impl_ReadShort.f k s a) (⟨#[]⟩, 0, false) := by
      unfold impl_ReadShort.f
      exact Ev.bind (readvar_out s hs a ha) (Ev.now' fun _ => rfl)
    rw [Ev.uniq h2 h4] at hr
    simp at hr

/-- What no block answers. -/
def noB : Bool × List S69 × ByteArray × Bool := (false, [], ⟨#[]⟩, false)
/-- A read block, where its own bytes are the text. -/
noncomputable def fin (s : ByteArray) (b : Bool) (l : List S69) (t : ByteArray) : Bool × List S69 × ByteArray × Bool := if (BT b l t).2 = true then (if (BT b l t).1.toList = s.toList then (b, l, t, true) else noB) else noB
def RbOk (s : ByteArray) (R : Bool × List S69 × ByteArray × Bool) : Prop := R.2.1.length ≤ 4 ∧ (∀ x ∈ R.2.1, x.f0.size ≤ 20000) ∧ R.2.2.1.size ≤ s.size ∧ (R.2.2.2 = true → BT R.1 R.2.1 R.2.2.1 = (s, true))
theorem noB_ok (s : ByteArray) : RbOk s noB := ⟨by simp [noB], fun x hx => by simp [noB] at hx, Nat.zero_le s.size, fun h => by simp [noB] at h⟩
theorem fin_ok (s : ByteArray) (b : Bool) (l : List S69) (t : ByteArray) (hl : l.length ≤ 4) (hn : ∀ x ∈ l, x.f0.size ≤ 20000) (ht : t.size ≤ s.size) : RbOk s (fin s b l t) := by
  unfold fin
  by_cases h1 : (BT b l t).2 = true
  · rw [if_pos h1]
    by_cases h2 : (BT b l t).1.toList = s.toList
    · rw [if_pos h2]
      refine ⟨hl, hn, ht, fun _ => ?_⟩
      show BT b l t = (s, true)
      rw [← toList_inj h2, ← h1]
    · rw [if_neg h2]; exact noB_ok s
  · rw [if_neg h1]; exact noB_ok s
theorem fin_if (s : ByteArray) (b : Bool) (l : List S69) (t : ByteArray) : (if (BT b l t).2 = true then (if (BT b l t).1.toList = s.toList then some (b, l, t, true) else some (false, ([] : List S69), (⟨#[]⟩ : ByteArray), false)) else some (false, ([] : List S69), (⟨#[]⟩ : ByteArray), false)) = some (fin s b l t) := by
  unfold fin
  split
  · split <;> rfl
  · rfl
theorem sfin_ev (s : ByteArray) (b : Bool) (l : List S69) (t : ByteArray) (hn : ∀ x ∈ l, x.f0.size ≤ 140737488351232) : Ev (fun k => spec_ReadBlock.j2 k s b l t) (fin s b l t) :=
  Ev.step (fun k => by simp only [spec_ReadBlock.j2]; rfl) (Ev.bind (spec_blocktext b l t hn) (Ev.now' fun _ => fin_if s b l t))
theorem ifin_ev (s : ByteArray) (b : Bool) (l : List S69) (t : ByteArray) (hl : l.length ≤ 1048576) (hn : ∀ x ∈ l, x.f0.size ≤ 140737488351232) : Ev (fun k => impl_ReadBlock.j1 k s b l t) (fin s b l t) :=
  Ev.step (fun k => by simp only [impl_ReadBlock.j1]; rfl) (Ev.bind (impl_blocktext b l t hl hn) (Ev.now' fun _ => fin_if s b l t))
theorem set_rep (acc : List S69) (d : Nat) (v : S69) : (acc ++ List.replicate (d + 1) z69).set acc.length v = (acc ++ [v]) ++ List.replicate d z69 := by
  simp [List.set_append, List.replicate_succ]
theorem BT_short (acc : List S69) (t : ByteArray) (h : acc.length ≠ 4) : BT true acc t = (⟨#[]⟩, false) := by
  unfold BT
  rw [dB_false (fun hb => by unfold BOk at hb; rw [if_pos rfl] at hb; exact h hb.2.1)]
  rfl
theorem rb_loop (s : ByteArray) (hs : s.size ≤ 1048576) (d : Nat) : ∀ (acc : List S69) (p : Int), acc.length + d = 4 → 0 ≤ p → p ≤ s.size → (∀ x ∈ acc, x.f0.size ≤ 20000) → ∃ R, Ev (fun k => spec_ReadBlock.l0 k s p acc.length true acc ⟨#[]⟩) R ∧ Ev (fun k => impl_ReadBlock.l0 k s p 4 acc.length true (acc ++ List.replicate d z69) ⟨#[]⟩) R ∧ RbOk s R := by
  induction d with
  | zero =>
    intro acc p hl p0 p1 hn
    have hn' : ∀ x ∈ acc, x.f0.size ≤ 140737488351232 := fun x hx => by have := hn x hx; omega
    have ks : ∀ k, spec_ReadBlock.l0 (k + 1) s p acc.length true acc ⟨#[]⟩ = spec_ReadBlock.j1 k s p acc.length false true acc ⟨#[]⟩ := fun k => by
      simp only [spec_ReadBlock.l0]
      rw [if_neg (by omega)]
    have kj : ∀ k, spec_ReadBlock.j1 (k + 1) s p acc.length false true acc ⟨#[]⟩ = spec_ReadBlock.j2 k s true acc ⟨#[]⟩ := fun k => by
      simp only [spec_ReadBlock.j1, Bool.false_eq_true, if_false]
    have ki : ∀ k, impl_ReadBlock.l0 (k + 1) s p 4 acc.length true (acc ++ List.replicate 0 z69) ⟨#[]⟩ = impl_ReadBlock.j1 k s true acc ⟨#[]⟩ := fun k => by
      rw [List.replicate_zero, List.append_nil]
      simp only [impl_ReadBlock.l0]
      rw [if_neg (by omega)]
    exact ⟨fin s true acc ⟨#[]⟩, Ev.step ks (Ev.step kj (sfin_ev s true acc ⟨#[]⟩ hn')), Ev.step ki (ifin_ev s true acc ⟨#[]⟩ (by omega) hn'), fin_ok s true acc ⟨#[]⟩ (by omega) hn (Nat.zero_le s.size)⟩
  | succ d ih =>
    intro acc p hl p0 p1 hn
    have hn' : ∀ x ∈ acc, x.f0.size ≤ 140737488351232 := fun x hx => by have := hn x hx; omega
    have hw : wrap64 ((acc.length : Int) + 1) = ((acc.length + 1 : Nat) : Int) := by rw [w64 (by omega) (by omega)]; omega
    have hwp : wrap64 (p + 1) = p + 1 := w64 (by omega) (by omega)
    have hb := bt_range s p
    obtain ⟨⟨nm, nx, ok⟩, h1, h2, h3⟩ := readshort_in s (by omega) (p + 1)
    cases ok with
    | false =>
      refine ⟨noB, ?_, ?_, noB_ok s⟩
      · have ks : ∀ k, spec_ReadBlock.l0 (k + 1) s p acc.length true acc ⟨#[]⟩ = spec_ReadBlock.j1 k s p acc.length (decide (p < (s.size : Int))) true acc ⟨#[]⟩ := fun k => by
          simp only [spec_ReadBlock.l0]
          rw [if_pos (by omega)]
        by_cases hp : p < (s.size : Int)
        · have kj : ∀ k, spec_ReadBlock.j1 (k + 1) s p acc.length true true acc ⟨#[]⟩ = (spec_ReadShort.f k s (p + 1)).bind (fun q => if q.2.2 = true then (if 0 ≤ p then (if p < (s.size : Int) then (if acc.length < 5864062014805 then spec_ReadBlock.l0 k s q.2.1 ((acc.length + 1 : Nat) : Int) true (acc ++ [(⟨q.1, wrap64 (bt s p)⟩ : S69)]) ⟨#[]⟩ else none) else none) else none) else some noB) := fun k => by
            simp only [spec_ReadBlock.j1, if_true, hw, hwp]
            rfl
          rw [decide_eq_true hp] at ks
          exact Ev.step ks (Ev.step kj (Ev.bind h1 (Ev.now' fun _ => rfl)))
        · have kj : ∀ k, spec_ReadBlock.j1 (k + 1) s p acc.length false true acc ⟨#[]⟩ = spec_ReadBlock.j2 k s true acc ⟨#[]⟩ := fun k => by
            simp only [spec_ReadBlock.j1, Bool.false_eq_true, if_false]
          rw [decide_eq_false hp] at ks
          have h := sfin_ev s true acc ⟨#[]⟩ hn'
          unfold fin at h
          rw [BT_short acc _ (by omega)] at h
          exact Ev.step ks (Ev.step kj h)
      · have ki : ∀ k, impl_ReadBlock.l0 (k + 1) s p 4 acc.length true (acc ++ List.replicate (d + 1) z69) ⟨#[]⟩ = (impl_ReadShort.f k s (p + 1)).bind (fun q => if q.2.2 = true then (if 0 ≤ p then (if p < (s.size : Int) then impl_ReadBlock.l0 k s q.2.1 4 ((acc.length + 1 : Nat) : Int) true ((acc ++ [(⟨q.1, wrap64 (bt s p)⟩ : S69)]) ++ List.replicate d z69) ⟨#[]⟩ else none) else none) else some noB) := fun k => by
          simp only [impl_ReadBlock.l0, hwp, hw]
          rw [if_pos (by omega)]
          simp only [if_pos (show (0 : Int) ≤ (acc.length : Int) by omega), if_pos (show (acc.length : Int) < ((acc ++ List.replicate (d + 1) z69).length : Int) by rw [List.length_append, List.length_replicate]; omega), Int.toNat_natCast, set_rep]
          rfl
        exact Ev.step ki (Ev.bind h2 (Ev.now' fun _ => rfl))
    | true =>
      obtain ⟨q1, q2, q3, q4, q5⟩ := h3 rfl
      simp only at q1 q2 q3
      obtain ⟨R, e1, e2, hR⟩ := ih (acc ++ [(⟨nm, wrap64 (bt s p)⟩ : S69)]) nx (by simp; omega) q2 q3 (fun x hx => by
        rcases List.mem_append.1 hx with hx | hx
        · exact hn x hx
        · rw [List.mem_singleton.1 hx]
          exact q1)
      rw [List.length_append, List.length_singleton] at e1 e2
      refine ⟨R, ?_, ?_, hR⟩
      · have ks : ∀ k, spec_ReadBlock.l0 (k + 1) s p acc.length true acc ⟨#[]⟩ = spec_ReadBlock.j1 k s p acc.length true true acc ⟨#[]⟩ := fun k => by
          simp only [spec_ReadBlock.l0]
          rw [if_pos (by omega), decide_eq_true (by omega)]
        have kj : ∀ k, spec_ReadBlock.j1 (k + 1) s p acc.length true true acc ⟨#[]⟩ = (spec_ReadShort.f k s (p + 1)).bind (fun q => if q.2.2 = true then spec_ReadBlock.l0 k s q.2.1 ((acc.length + 1 : Nat) : Int) true (acc ++ [(⟨q.1, wrap64 (bt s p)⟩ : S69)]) ⟨#[]⟩ else some noB) := fun k => by
          simp only [spec_ReadBlock.j1, if_true, hw, hwp, if_pos p0, if_pos (show p < (s.size : Int) by omega), if_pos (show acc.length < 5864062014805 by omega)]
          rfl
        exact Ev.step ks (Ev.step kj (Ev.bind h1 (Ev.congr (fun k => by rw [if_pos rfl]) e1)))
      · have ki : ∀ k, impl_ReadBlock.l0 (k + 1) s p 4 acc.length true (acc ++ List.replicate (d + 1) z69) ⟨#[]⟩ = (impl_ReadShort.f k s (p + 1)).bind (fun q => if q.2.2 = true then impl_ReadBlock.l0 k s q.2.1 4 ((acc.length + 1 : Nat) : Int) true ((acc ++ [(⟨q.1, wrap64 (bt s p)⟩ : S69)]) ++ List.replicate d z69) ⟨#[]⟩ else some noB) := fun k => by
          simp only [impl_ReadBlock.l0, hwp, hw]
          rw [if_pos (by omega)]
          simp only [if_pos p0, if_pos (show p < (s.size : Int) by omega), if_pos (show (0 : Int) ≤ (acc.length : Int) by omega), if_pos (show (acc.length : Int) < ((acc ++ List.replicate (d + 1) z69).length : Int) by rw [List.length_append, List.length_replicate]; omega), Int.toNat_natCast, set_rep]
          rfl
        exact Ev.step ki (Ev.bind h2 (Ev.congr (fun k => by rw [if_pos rfl]) e2))
theorem readblock_ev (s : ByteArray) (hs : s.size ≤ 1048576) : ∃ R, Ev (fun k => spec_ReadBlock.f k s) R ∧ Ev (fun k => impl_ReadBlock.f k s) R ∧ RbOk s R := by
  unfold spec_ReadBlock.f impl_ReadBlock.f
  by_cases h0 : s.toList = ([] : List UInt8)
  · exact ⟨noB, Ev.now' fun _ => by rw [if_pos h0]; rfl, Ev.now' fun _ => by rw [if_pos h0]; rfl, noB_ok s⟩
  · have hz : s.size ≠ 0 := fun e => h0 (by
      rw [Go.Lib.toList_data]
      have : s.data = #[] := Array.eq_empty_of_size_eq_zero e
      rw [this])
    simp only [if_neg h0, if_pos (show (1 : Int) ≤ (s.size : Int) by omega), if_pos (show (0 : Int) < (s.size : Int) by omega)]
    by_cases hd : bt s 0 = 100
    · simp only [if_pos hd]
      obtain ⟨R, e1, e2, hR⟩ := rb_loop s hs 4 [] 1 rfl (by omega) (by omega) (fun x hx => by simp at hx)
      exact ⟨R, e1, e2, hR⟩
    · simp only [if_neg hd]
      have hsz : (s.extract 1 s.size).size ≤ s.size := by rw [ByteArray.size_extract]; omega
      exact ⟨fin s false [] (s.extract 1 s.size), sfin_ev s false [] _ (fun x hx => by simp at hx), ifin_ev s false [] _ (by simp) (fun x hx => by simp at hx), fin_ok s false [] _ (by simp) (fun x hx => by simp at hx) hsz⟩

theorem laws_eqBoolS_loop (l : List (Bool)) (hl : l.length ≤ 1048576) (d : Nat) : ∀ (i : Int), 0 ≤ i → i ≤ l.length → (l.length : Int) - i = d → Ev (fun k => laws_eqBoolS.l0 k l l i) true := by
  induction d with
  | zero =>
    intro i h0 h1 hd
    exact Ev.last (fun k => by simp only [laws_eqBoolS.l0]; rw [if_neg (by omega)])
  | succ d ih =>
    intro i h0 h1 hd
    have hw : wrap64 (i + 1) = i + 1 := w64 (by omega) (by omega)
    refine Ev.step (fun k => ?_) (ih (i + 1) (by omega) (by omega) (by omega))
    simp only [laws_eqBoolS.l0]
    rw [if_pos (by omega), if_pos h0, if_pos (by omega), hw]
    simp
theorem laws_eqBoolS_refl (l : List (Bool)) (hl : l.length ≤ 1048576) : Ev (fun k => laws_eqBoolS.f k l l) true := by
  refine Ev.congr (fun k => ?_) (laws_eqBoolS_loop l hl l.length 0 (by omega) (by omega) (by omega))
  unfold laws_eqBoolS.f
  rw [if_pos rfl]

theorem eqBits_ev (a b : List Bool) (ha : a.length ≤ 1048576) (hb : b.length ≤ 1048576) : Ev (fun k => laws_eqBits.f k a b a b) true := by
  unfold laws_eqBits.f
  exact Ev.bind (laws_eqBoolS_refl a ha) (Ev.bind (laws_eqBoolS_refl b hb) (Ev.now _))

theorem laws_eqIntS_loop (l : List (Int)) (hl : l.length ≤ 1048576) (d : Nat) : ∀ (i : Int), 0 ≤ i → i ≤ l.length → (l.length : Int) - i = d → Ev (fun k => laws_eqIntS.l0 k l l i) true := by
  induction d with
  | zero =>
    intro i h0 h1 hd
    exact Ev.last (fun k => by simp only [laws_eqIntS.l0]; rw [if_neg (by omega)])
  | succ d ih =>
    intro i h0 h1 hd
    have hw : wrap64 (i + 1) = i + 1 := w64 (by omega) (by omega)
    refine Ev.step (fun k => ?_) (ih (i + 1) (by omega) (by omega) (by omega))
    simp only [laws_eqIntS.l0]
    rw [if_pos (by omega), if_pos h0, if_pos (by omega), hw]
    simp
theorem laws_eqIntS_refl (l : List (Int)) (hl : l.length ≤ 1048576) : Ev (fun k => laws_eqIntS.f k l l) true := by
  refine Ev.congr (fun k => ?_) (laws_eqIntS_loop l hl l.length 0 (by omega) (by omega) (by omega))
  unfold laws_eqIntS.f
  rw [if_pos rfl]

theorem eqInode_ev (a b : Int) (l : List Int) (hl : l.length ≤ 1048576) : Ev (fun k => laws_eqInode.f k a b l a b l) true := by
  unfold laws_eqInode.f
  simp only [if_true]
  exact Ev.bind (laws_eqIntS_refl l hl) (Ev.now _)

theorem eqSlot_ev (x : S69) (_ : True) : Ev (fun _ => laws_eqSlot.f x.f0 x.f1 x.f0 x.f1) true := Ev.now' fun _ => by
  unfold laws_eqSlot.f
  rw [if_pos rfl, if_pos rfl]

theorem laws_eqSlotS_loop (l : List S69) (hl : l.length ≤ 1048576) (hg : ∀ x ∈ l, (fun _ => True) x) (d : Nat) : ∀ (i : Int), 0 ≤ i → i ≤ l.length → (l.length : Int) - i = d → Ev (fun k => laws_eqSlotS.l0 k l l i) true := by
  induction d with
  | zero =>
    intro i h0 h1 hd
    exact Ev.last (fun k => by simp only [laws_eqSlotS.l0]; rw [if_neg (by omega)])
  | succ d ih =>
    intro i h0 h1 hd
    have hw : wrap64 (i + 1) = i + 1 := w64 (by omega) (by omega)
    have h2 : i < (l.length : Int) := by omega
    have hx := eqSlot_ev (l.getD i.toNat z69) (hg _ (getD_mem (xs := l) (i := i.toNat) z69 (by omega)))
    have key : ∀ k, laws_eqSlotS.l0 (k + 1) l l i = ((fun (k : Nat) (x : S69) => laws_eqSlot.f x.f0 x.f1 x.f0 x.f1) k (l.getD i.toNat z69)).bind (fun t => if t = true then laws_eqSlotS.l0 k l l (i + 1) else some false) := fun k => by
      simp only [laws_eqSlotS.l0, if_pos h2, if_pos h0, hw]
      rfl
    exact Ev.step key (Ev.bind hx (Ev.congr (fun k => by rw [if_pos rfl]) (ih (i + 1) (by omega) (by omega) (by omega))))
theorem laws_eqSlotS_refl (l : List S69) (hl : l.length ≤ 1048576) (hg : ∀ x ∈ l, (fun _ => True) x) : Ev (fun k => laws_eqSlotS.f k l l) true := by
  refine Ev.congr (fun k => ?_) (laws_eqSlotS_loop l hl hg l.length 0 (by omega) (by omega) (by omega))
  unfold laws_eqSlotS.f
  rw [if_pos rfl]


theorem eqBlock_ev (b : Bool) (l : List S69) (t : ByteArray) (hl : l.length ≤ 1048576) : Ev (fun k => laws_eqBlock.f k b l t b l t) true := by
  unfold laws_eqBlock.f
  simp only [bne_self_eq_false, Bool.false_eq_true, if_false]
  exact Ev.bind (laws_eqSlotS_refl l hl (fun _ _ => trivial)) (Ev.now' fun _ => by simp)

def ILimT (x : S105) : Prop := x.f2.length ≤ 1048576
def BLimT (x : S59) : Prop := x.f1.length ≤ 1048576
theorem eqInodeY_ev (x : S105) (h : ILimT x) : Ev (fun k => laws_eqInode.f k x.f0 x.f1 x.f2 x.f0 x.f1 x.f2) true := eqInode_ev x.f0 x.f1 x.f2 h
theorem eqBlockY_ev (x : S59) (h : BLimT x) : Ev (fun k => laws_eqBlock.f k x.f0 x.f1 x.f2 x.f0 x.f1 x.f2) true := eqBlock_ev x.f0 x.f1 x.f2 h

theorem laws_eqInodeS_loop (l : List S105) (hl : l.length ≤ 1048576) (hg : ∀ x ∈ l, ILimT x) (d : Nat) : ∀ (i : Int), 0 ≤ i → i ≤ l.length → (l.length : Int) - i = d → Ev (fun k => laws_eqInodeS.l0 k l l i) true := by
  induction d with
  | zero =>
    intro i h0 h1 hd
    exact Ev.last (fun k => by simp only [laws_eqInodeS.l0]; rw [if_neg (by omega)])
  | succ d ih =>
    intro i h0 h1 hd
    have hw : wrap64 (i + 1) = i + 1 := w64 (by omega) (by omega)
    have h2 : i < (l.length : Int) := by omega
    have hx := eqInodeY_ev (l.getD i.toNat z105) (hg _ (getD_mem (xs := l) (i := i.toNat) z105 (by omega)))
    have key : ∀ k, laws_eqInodeS.l0 (k + 1) l l i = ((fun (k : Nat) (x : S105) => laws_eqInode.f k x.f0 x.f1 x.f2 x.f0 x.f1 x.f2) k (l.getD i.toNat z105)).bind (fun t => if t = true then laws_eqInodeS.l0 k l l (i + 1) else some false) := fun k => by
      simp only [laws_eqInodeS.l0, if_pos h2, if_pos h0, hw]
      rfl
    exact Ev.step key (Ev.bind hx (Ev.congr (fun k => by rw [if_pos rfl]) (ih (i + 1) (by omega) (by omega) (by omega))))
theorem laws_eqInodeS_refl (l : List S105) (hl : l.length ≤ 1048576) (hg : ∀ x ∈ l, ILimT x) : Ev (fun k => laws_eqInodeS.f k l l) true := by
  refine Ev.congr (fun k => ?_) (laws_eqInodeS_loop l hl hg l.length 0 (by omega) (by omega) (by omega))
  unfold laws_eqInodeS.f
  rw [if_pos rfl]

theorem laws_eqBlockS_loop (l : List S59) (hl : l.length ≤ 1048576) (hg : ∀ x ∈ l, BLimT x) (d : Nat) : ∀ (i : Int), 0 ≤ i → i ≤ l.length → (l.length : Int) - i = d → Ev (fun k => laws_eqBlockS.l0 k l l i) true := by
  induction d with
  | zero =>
    intro i h0 h1 hd
    exact Ev.last (fun k => by simp only [laws_eqBlockS.l0]; rw [if_neg (by omega)])
  | succ d ih =>
    intro i h0 h1 hd
    have hw : wrap64 (i + 1) = i + 1 := w64 (by omega) (by omega)
    have h2 : i < (l.length : Int) := by omega
    have hx := eqBlockY_ev (l.getD i.toNat z59) (hg _ (getD_mem (xs := l) (i := i.toNat) z59 (by omega)))
    have key : ∀ k, laws_eqBlockS.l0 (k + 1) l l i = ((fun (k : Nat) (x : S59) => laws_eqBlock.f k x.f0 x.f1 x.f2 x.f0 x.f1 x.f2) k (l.getD i.toNat z59)).bind (fun t => if t = true then laws_eqBlockS.l0 k l l (i + 1) else some false) := fun k => by
      simp only [laws_eqBlockS.l0, if_pos h2, if_pos h0, hw]
      rfl
    exact Ev.step key (Ev.bind hx (Ev.congr (fun k => by rw [if_pos rfl]) (ih (i + 1) (by omega) (by omega) (by omega))))
theorem laws_eqBlockS_refl (l : List S59) (hl : l.length ≤ 1048576) (hg : ∀ x ∈ l, BLimT x) : Ev (fun k => laws_eqBlockS.f k l l) true := by
  refine Ev.congr (fun k => ?_) (laws_eqBlockS_loop l hl hg l.length 0 (by omega) (by omega) (by omega))
  unfold laws_eqBlockS.f
  rw [if_pos rfl]

theorem eqDisk_ev (a b : List Bool) (I : List S105) (B : List S59) (ha : a.length ≤ 1048576) (hb : b.length ≤ 1048576) (hI : I.length ≤ 1048576) (hi : ∀ x ∈ I, ILimT x) (hB : B.length ≤ 1048576) (hb' : ∀ x ∈ B, BLimT x) : Ev (fun k => laws_eqDisk.f k a b I B a b I B) true := by
  unfold laws_eqDisk.f
  exact Ev.bind (eqBits_ev a b ha hb) (Ev.bind (laws_eqInodeS_refl I hI hi) (Ev.bind (laws_eqBlockS_refl B hB hb') (Ev.now _)))

def laws_markBoolS_marks (m : Int) (n : Nat) : List (Bool) := (List.range n).map fun j : Nat => (fun x1 : Int => (Int.tmod x1 3 == 0)) (m + (j : Int))
theorem laws_markBoolS_marks_length (m : Int) (n : Nat) : (laws_markBoolS_marks m n).length = n := by simp [laws_markBoolS_marks]
theorem laws_markBoolS_marks_at (m : Int) (n i : Nat) (h : i < n) (d : Bool) : (laws_markBoolS_marks m n).getD i d = (fun x1 : Int => (Int.tmod x1 3 == 0)) (m + i) := by
  unfold laws_markBoolS_marks
  rw [List.getD_eq_getElem?_getD, List.getElem?_map, List.getElem?_range h]
  rfl
theorem laws_markBoolS_loop (m : Int) (n : Nat) (hn : n ≤ 1048576) (m0 : 0 ≤ m) (m1 : m ≤ 10000000000000) (d : Nat) : ∀ (x : List (Bool)) (i : Nat), x.length = n → i ≤ n → n - i = d → x.take i = (laws_markBoolS_marks m n).take i → Ev (fun k => laws_markBoolS.l0 k x (m + i) (i : Int)) (m + n, laws_markBoolS_marks m n) := by
  induction d with
  | zero =>
    intro x i hx hi hd ht
    obtain rfl : i = n := by omega
    have e : x = laws_markBoolS_marks m i := take_all (by rw [hx, laws_markBoolS_marks_length]) (by rw [laws_markBoolS_marks_length]; exact ht)
    subst e
    exact Ev.last (fun k => by simp only [laws_markBoolS.l0]; rw [if_neg (by omega)])
  | succ d ih =>
    intro x i hx hi hd ht
    have hs := set_take (laws_markBoolS_marks m n) x false i (by rw [laws_markBoolS_marks_length]; omega) (by rw [hx, laws_markBoolS_marks_length]) ht
    rw [laws_markBoolS_marks_at m n i (by omega)] at hs
    refine Ev.step (fun k => ?_) (ih (x.set i ((fun x1 : Int => (Int.tmod x1 3 == 0)) (m + i))) (i + 1) (by rw [List.length_set]; exact hx) (by omega) (by omega) hs)
    simp only [laws_markBoolS.l0]
    rw [if_pos (by omega), if_pos (by omega), w64 (x := m + i + 1) (by omega) (by omega), w64 (x := (i : Int) + 1) (by omega) (by omega), Int.toNat_natCast, show m + (i : Int) + 1 = m + ((i + 1 : Nat) : Int) by omega, show (i : Int) + 1 = ((i + 1 : Nat) : Int) by omega]
theorem laws_markBoolS_ev (l : List (Bool)) (m : Int) (hn : l.length ≤ 1048576) (m0 : 0 ≤ m) (m1 : m ≤ 10000000000000) : Ev (fun k => laws_markBoolS.f k l m) (m + l.length, laws_markBoolS_marks m l.length) := by
  have h := laws_markBoolS_loop m l.length hn m0 m1 l.length l 0 rfl (by omega) (by omega) (by simp)
  refine Ev.congr (fun k => ?_) h
  unfold laws_markBoolS.f
  simp

theorem markBits_ev (a b : List Bool) (ha : a.length ≤ 1048576) (hb : b.length ≤ 1048576) : Ev (fun k => laws_markBits.f k a b 1) (1 + a.length + b.length, laws_markBoolS_marks 1 a.length, laws_markBoolS_marks (1 + a.length) b.length) := by
  unfold laws_markBits.f
  exact Ev.bind (laws_markBoolS_ev a 1 ha (by omega) (by omega)) (Ev.bind (laws_markBoolS_ev b (1 + a.length) hb (by omega) (by omega)) (Ev.now _))

theorem laws_heldBoolS_loop (m : Int) (n : Nat) (hn : n ≤ 1048576) (m0 : 0 ≤ m) (m1 : m ≤ 10000000000000) (d : Nat) : ∀ (i : Nat), i ≤ n → n - i = d → Ev (fun k => laws_heldBoolS.l0 k (laws_markBoolS_marks m n) (m + i) (i : Int)) (m + n) := by
  induction d with
  | zero =>
    intro i hi hd
    obtain rfl : i = n := by omega
    exact Ev.last (fun k => by simp only [laws_heldBoolS.l0, laws_markBoolS_marks_length]; rw [if_neg (by omega)])
  | succ d ih =>
    intro i hi hd
    refine Ev.step (fun k => ?_) (ih (i + 1) (by omega) (by omega))
    have e : rdOf false (laws_markBoolS_marks m n) (i : Int) = (fun x1 : Int => (Int.tmod x1 3 == 0)) (m + i) := laws_markBoolS_marks_at m n i (by omega) _
    simp only [laws_heldBoolS.l0, laws_markBoolS_marks_length, e]
    rw [if_pos (by omega), if_pos (by omega), w64 (x := m + i + 1) (by omega) (by omega), w64 (x := (i : Int) + 1) (by omega) (by omega), show m + (i : Int) + 1 = m + ((i + 1 : Nat) : Int) by omega, show (i : Int) + 1 = ((i + 1 : Nat) : Int) by omega]
    simp
theorem laws_heldBoolS_ev (m : Int) (n : Nat) (hn : n ≤ 1048576) (m0 : 0 ≤ m) (m1 : m ≤ 10000000000000) : Ev (fun k => laws_heldBoolS.f k (laws_markBoolS_marks m n) m) (m + n) := by
  have h := laws_heldBoolS_loop m n hn m0 m1 n 0 (by omega) (by omega)
  refine Ev.congr (fun k => ?_) h
  unfold laws_heldBoolS.f
  simp

theorem heldBits_ev (m n : Nat) (ha : m ≤ 1048576) (hb : n ≤ 1048576) : Ev (fun k => laws_heldBits.f k (laws_markBoolS_marks 1 m) (laws_markBoolS_marks (1 + m) n) 1) (1 + m + n) := by
  unfold laws_heldBits.f
  refine Ev.bind (laws_heldBoolS_ev 1 m ha (by omega) (by omega)) ?_
  simp only [if_neg (show ¬ (1 + (m : Int)) < 0 by omega)]
  exact Ev.bind (laws_heldBoolS_ev (1 + m) n hb (by omega) (by omega)) (Ev.now' fun _ => by rw [if_neg (by omega)])

def laws_markIntS_marks (m : Int) (n : Nat) : List (Int) := (List.range n).map fun j : Nat => (fun x1 : Int => x1) (m + (j : Int))
theorem laws_markIntS_marks_length (m : Int) (n : Nat) : (laws_markIntS_marks m n).length = n := by simp [laws_markIntS_marks]
theorem laws_markIntS_marks_at (m : Int) (n i : Nat) (h : i < n) (d : Int) : (laws_markIntS_marks m n).getD i d = (fun x1 : Int => x1) (m + i) := by
  unfold laws_markIntS_marks
  rw [List.getD_eq_getElem?_getD, List.getElem?_map, List.getElem?_range h]
  rfl
theorem laws_markIntS_loop (m : Int) (n : Nat) (hn : n ≤ 1048576) (m0 : 0 ≤ m) (m1 : m ≤ 10000000000000) (d : Nat) : ∀ (x : List (Int)) (i : Nat), x.length = n → i ≤ n → n - i = d → x.take i = (laws_markIntS_marks m n).take i → Ev (fun k => laws_markIntS.l0 k x (m + i) (i : Int)) (m + n, laws_markIntS_marks m n) := by
  induction d with
  | zero =>
    intro x i hx hi hd ht
    obtain rfl : i = n := by omega
    have e : x = laws_markIntS_marks m i := take_all (by rw [hx, laws_markIntS_marks_length]) (by rw [laws_markIntS_marks_length]; exact ht)
    subst e
    exact Ev.last (fun k => by simp only [laws_markIntS.l0]; rw [if_neg (by omega)])
  | succ d ih =>
    intro x i hx hi hd ht
    have hs := set_take (laws_markIntS_marks m n) x 0 i (by rw [laws_markIntS_marks_length]; omega) (by rw [hx, laws_markIntS_marks_length]) ht
    rw [laws_markIntS_marks_at m n i (by omega)] at hs
    refine Ev.step (fun k => ?_) (ih (x.set i ((fun x1 : Int => x1) (m + i))) (i + 1) (by rw [List.length_set]; exact hx) (by omega) (by omega) hs)
    simp only [laws_markIntS.l0]
    rw [if_pos (by omega), if_pos (by omega), w64 (x := m + i + 1) (by omega) (by omega), w64 (x := (i : Int) + 1) (by omega) (by omega), Int.toNat_natCast, show m + (i : Int) + 1 = m + ((i + 1 : Nat) : Int) by omega, show (i : Int) + 1 = ((i + 1 : Nat) : Int) by omega]
theorem laws_markIntS_ev (l : List (Int)) (m : Int) (hn : l.length ≤ 1048576) (m0 : 0 ≤ m) (m1 : m ≤ 10000000000000) : Ev (fun k => laws_markIntS.f k l m) (m + l.length, laws_markIntS_marks m l.length) := by
  have h := laws_markIntS_loop m l.length hn m0 m1 l.length l 0 rfl (by omega) (by omega) (by simp)
  refine Ev.congr (fun k => ?_) h
  unfold laws_markIntS.f
  simp

theorem laws_heldIntS_loop (m : Int) (n : Nat) (hn : n ≤ 1048576) (m0 : 0 ≤ m) (m1 : m ≤ 10000000000000) (d : Nat) : ∀ (i : Nat), i ≤ n → n - i = d → Ev (fun k => laws_heldIntS.l0 k (laws_markIntS_marks m n) (m + i) (i : Int)) (m + n) := by
  induction d with
  | zero =>
    intro i hi hd
    obtain rfl : i = n := by omega
    exact Ev.last (fun k => by simp only [laws_heldIntS.l0, laws_markIntS_marks_length]; rw [if_neg (by omega)])
  | succ d ih =>
    intro i hi hd
    refine Ev.step (fun k => ?_) (ih (i + 1) (by omega) (by omega))
    have e : rd (laws_markIntS_marks m n) (i : Int) = (fun x1 : Int => x1) (m + i) := laws_markIntS_marks_at m n i (by omega) _
    simp only [laws_heldIntS.l0, laws_markIntS_marks_length, e]
    rw [if_pos (by omega), if_pos (by omega), w64 (x := m + i + 1) (by omega) (by omega), w64 (x := (i : Int) + 1) (by omega) (by omega), show m + (i : Int) + 1 = m + ((i + 1 : Nat) : Int) by omega, show (i : Int) + 1 = ((i + 1 : Nat) : Int) by omega]
    simp
theorem laws_heldIntS_ev (m : Int) (n : Nat) (hn : n ≤ 1048576) (m0 : 0 ≤ m) (m1 : m ≤ 10000000000000) : Ev (fun k => laws_heldIntS.f k (laws_markIntS_marks m n) m) (m + n) := by
  have h := laws_heldIntS_loop m n hn m0 m1 n 0 (by omega) (by omega)
  refine Ev.congr (fun k => ?_) h
  unfold laws_heldIntS.f
  simp

theorem marktext_loop (d : Nat) : ∀ (x : Int) (s : ByteArray), x < 10 ^ d → 0 ≤ x → x ≤ 9000000000000000000 → s.size + d ≤ 4000000000 → ∃ t, Ev (fun k => laws_markText.l0 k x s) t := by
  induction d with
  | zero =>
    intro x s h h0 hz hs
    exact ⟨_, Ev.last (fun k => by simp only [laws_markText.l0]; rw [if_neg (by omega), if_pos (by omega)])⟩
  | succ d ih =>
    intro x s h h0 hz hs
    by_cases hx : x > 0
    · rw [Int.pow_succ] at h
      have hd : x / 10 < 10 ^ d := by
        generalize (10 : Int) ^ d = p at h ⊢
        omega
      obtain ⟨t, ht⟩ := ih (x / 10) (strOfNums [(wrap64 (48 + (Int.tmod x 10))) % 256] ++ s) hd (by omega) (by omega) (by rw [ByteArray.size_append, strOfNums_size]; simp; omega)
      refine ⟨t, Ev.step (fun k => ?_) ht⟩
      simp only [laws_markText.l0, Option.bind_some]
      rw [if_pos hx, if_pos (by rw [strOfNums_size]; simp; omega), tdiv_nn h0, w64 (by omega) (by omega)]
    · exact ⟨_, Ev.last (fun k => by simp only [laws_markText.l0]; rw [if_neg hx, if_pos (by omega)])⟩
theorem marktext_some (m : Int) (m1 : m ≤ 11000000000000) : ∃ t, Ev (fun k => laws_markText.f k m) t := by
  unfold laws_markText.f
  by_cases h : m ≤ 0
  · exact ⟨_, Ev.now' fun k => by rw [if_pos h]⟩
  · obtain ⟨t, ht⟩ := marktext_loop 14 m ⟨#[]⟩ (by omega) (by omega) (by omega) (by simp [ByteArray.size])
    exact ⟨t, Ev.congr (fun k => by rw [if_neg h]) ht⟩
/-- The text of a mark. -/
noncomputable def mt (m : Int) : ByteArray := @Classical.epsilon ByteArray ⟨⟨#[]⟩⟩ (fun t => Ev (fun k => laws_markText.f k m) t)
theorem mt_ev (m : Int) (m1 : m ≤ 11000000000000) : Ev (fun k => laws_markText.f k m) (mt m) := Classical.epsilon_spec (marktext_some m m1)

noncomputable def slm (m : Int) (n : Nat) : List S69 := (List.range n).map fun j : Nat => (⟨mt (m + 2 * (j : Int)), m + 2 * (j : Int) + 1⟩ : S69)
theorem slm_length (m : Int) (n : Nat) : (slm m n).length = n := by simp [slm]
theorem slm_at (m : Int) (n i : Nat) (h : i < n) (d : S69) : (slm m n).getD i d = ⟨mt (m + 2 * (i : Int)), m + 2 * (i : Int) + 1⟩ := by
  unfold slm
  rw [List.getD_eq_getElem?_getD, List.getElem?_map, List.getElem?_range h]
  rfl
theorem markSl_loop (m : Int) (n : Nat) (hn : n ≤ 1048576) (m0 : 0 ≤ m) (m1 : m ≤ 10000000000000) (d : Nat) : ∀ (x : List S69) (i : Nat), x.length = n → i ≤ n → n - i = d → x.take i = (slm m n).take i → Ev (fun k => laws_markSlotS.l0 k x (m + 2 * i) (i : Int)) (m + 2 * n, slm m n) := by
  induction d with
  | zero =>
    intro x i hx hi hd ht
    obtain rfl : i = n := by omega
    have e : x = slm m i := take_all (by rw [hx, slm_length]) (by rw [slm_length]; exact ht)
    subst e
    exact Ev.last (fun k => by simp only [laws_markSlotS.l0]; rw [if_neg (by omega)])
  | succ d ih =>
    intro x i hx hi hd ht
    have hs := set_take (slm m n) x z69 i (by rw [slm_length]; omega) (by rw [hx, slm_length]) ht
    rw [slm_at m n i (by omega)] at hs
    have e2 : ∀ t : ByteArray, (rd_T69 (x.set i (⟨t, (rd_T69 x (i : Int)).f1⟩ : S69)) (i : Int)).f0 = t := fun t => by
      show ((x.set i (⟨t, (rd_T69 x (i : Int)).f1⟩ : S69)).getD i z69).f0 = t
      rw [List.getD_eq_getElem?_getD, List.getElem?_set_self (by omega)]
      rfl
    refine Ev.step (f := fun k => (laws_markText.f k (m + 2 * i)).bind fun t => laws_markSlotS.l0 k (x.set i ⟨t, m + 2 * i + 1⟩) (m + 2 * ((i + 1 : Nat) : Int)) ((i + 1 : Nat) : Int)) (fun k => ?_) (Ev.bind (mt_ev (m + 2 * (i : Int)) (by omega)) (ih (x.set i ⟨mt (m + 2 * (i : Int)), m + 2 * (i : Int) + 1⟩) (i + 1) (by rw [List.length_set]; exact hx) (by omega) (by omega) hs))
    simp only [laws_markSlotS.l0, Option.bind_some, Int.toNat_natCast, e2, List.set_set]
    rw [if_pos (by omega), w64 (x := m + 2 * i + 1) (by omega) (by omega), w64 (x := m + 2 * i + 1 + 1) (by omega) (by omega), w64 (x := (i : Int) + 1) (by omega) (by omega), show m + 2 * (i : Int) + 1 + 1 = m + 2 * ((i + 1 : Nat) : Int) by omega, show (i : Int) + 1 = ((i + 1 : Nat) : Int) by omega]
    simp only [if_pos (show (0 : Int) ≤ (i : Int) by omega)]
theorem markSl_ev (l : List S69) (m : Int) (hn : l.length ≤ 1048576) (m0 : 0 ≤ m) (m1 : m ≤ 10000000000000) : Ev (fun k => laws_markSlotS.f k l m) (m + 2 * l.length, slm m l.length) := by
  have h := markSl_loop m l.length hn m0 m1 l.length l 0 rfl (by omega) (by omega) (by simp)
  refine Ev.congr (fun k => ?_) h
  unfold laws_markSlotS.f
  simp

theorem heldSl_loop (m : Int) (n : Nat) (hn : n ≤ 1048576) (m0 : 0 ≤ m) (m1 : m ≤ 10000000000000) (d : Nat) : ∀ (i : Nat), i ≤ n → n - i = d → Ev (fun k => laws_heldSlotS.l0 k (slm m n) (m + 2 * i) (i : Int)) (m + 2 * n) := by
  induction d with
  | zero =>
    intro i hi hd
    obtain rfl : i = n := by omega
    exact Ev.last (fun k => by simp only [laws_heldSlotS.l0, slm_length]; rw [if_neg (by omega)])
  | succ d ih =>
    intro i hi hd
    have e : rd_T69 (slm m n) (i : Int) = ⟨mt (m + 2 * (i : Int)), m + 2 * (i : Int) + 1⟩ := slm_at m n i (by omega) _
    refine Ev.step (f := fun k => (laws_markText.f k (m + 2 * i)).bind fun t => if (mt (m + 2 * (i : Int))).toList = t.toList then laws_heldSlotS.l0 k (slm m n) (m + 2 * ((i + 1 : Nat) : Int)) ((i + 1 : Nat) : Int) else some (-1)) (fun k => ?_) ?_
    · simp only [laws_heldSlotS.l0, slm_length, e]
      rw [if_pos (by omega), if_pos (by omega), w64 (x := m + 2 * i + 1) (by omega) (by omega), w64 (x := m + 2 * i + 1 + 1) (by omega) (by omega), w64 (x := (i : Int) + 1) (by omega) (by omega), show m + 2 * (i : Int) + 1 + 1 = m + 2 * ((i + 1 : Nat) : Int) by omega, show (i : Int) + 1 = ((i + 1 : Nat) : Int) by omega]
      simp only [if_true]
    · refine Ev.bind (mt_ev (m + 2 * (i : Int)) (by omega)) ?_
      simp only [if_true]
      exact ih (i + 1) (by omega) (by omega)
theorem heldSl_ev (m : Int) (n : Nat) (hn : n ≤ 1048576) (m0 : 0 ≤ m) (m1 : m ≤ 10000000000000) : Ev (fun k => laws_heldSlotS.f k (slm m n) m) (m + 2 * n) := by
  have h := heldSl_loop m n hn m0 m1 n 0 (by omega) (by omega)
  refine Ev.congr (fun k => ?_) h
  unfold laws_heldSlotS.f
  simp

theorem at_done {α : Type} (d0 : α) (done : List α) (x : α) (rest : List α) : (done ++ x :: rest).getD (done.length : Int).toNat d0 = x := by simp
theorem set_done {α : Type} (done : List α) (x y : α) (rest : List α) : (done ++ x :: rest).set (done.length : Int).toNat y = (done ++ [y]) ++ rest := by simp
def mkI : List S105 → Int → List S105
  | [], _ => []
  | x :: r, m => ⟨m, m + 1, laws_markIntS_marks (m + 2) x.f2.length⟩ :: mkI r (m + 2 + x.f2.length)
def eI : List S105 → Int → Int
  | [], m => m
  | x :: r, m => eI r (m + 2 + x.f2.length)
theorem mkI_length (r : List S105) : ∀ m, (mkI r m).length = r.length := by
  induction r with
  | nil => intro m; rfl
  | cons x r ih => intro m; simp [mkI, ih]
theorem eI_range (r : List S105) : ∀ m, (∀ y ∈ r, y.f2.length ≤ 1048576) → m ≤ eI r m ∧ eI r m ≤ m + 1048578 * (r.length : Int) := by
  induction r with
  | nil => intro m _; simp [eI]
  | cons x r ih =>
    intro m h
    obtain ⟨h1, h2⟩ := ih (m + 2 + x.f2.length) (fun y hy => h y (List.mem_cons_of_mem _ hy))
    have := h x List.mem_cons_self
    simp only [eI, List.length_cons]
    omega
theorem mkI_ev (r : List S105) : ∀ (done : List S105) (m : Int), (∀ y ∈ r, y.f2.length ≤ 1048576) → 0 ≤ m → m + 1048578 * (r.length : Int) ≤ 3000000000000 → done.length + r.length ≤ 1048576 → Ev (fun k => laws_markInodeS.l0 k (done ++ r) m (done.length : Int)) (eI r m, done ++ mkI r m) := by
  induction r with
  | nil =>
    intro done m _ _ _ _
    refine Ev.last (fun k => ?_)
    simp only [laws_markInodeS.l0, List.append_nil, eI, mkI]
    rw [if_neg (by omega)]
  | cons x r ih =>
    intro done m hy h0 h1 hd
    simp only [List.length_cons] at h1 hd
    have hl := hy x List.mem_cons_self
    have w1 : wrap64 (m + 1) = m + 1 := w64 (by omega) (by omega)
    have w2 : wrap64 (m + 1 + 1) = m + 2 := by rw [w64 (by omega) (by omega)]; omega
    have w3 : wrap64 ((done.length : Int) + 1) = ((done.length + 1 : Nat) : Int) := by rw [w64 (by omega) (by omega)]; omega
    have e1 : rd_T105 (done ++ x :: r) (done.length : Int) = x := at_done z105 done x r
    refine Ev.step (f := fun k => (laws_markIntS.f k x.f2 (m + 2)).bind fun bt => laws_markInodeS.l0 k ((done ++ [(⟨m, m + 1, bt.2⟩ : S105)]) ++ r) bt.1 ((done.length + 1 : Nat) : Int)) (fun k => ?_) (Ev.bind (laws_markIntS_ev x.f2 (m + 2) hl (by omega) (by omega)) ?_)
    · simp only [laws_markInodeS.l0, e1, w1, w2, w3, set_done]
      rw [if_pos (by simp; omega), if_pos (by omega)]
    · have h := ih (done ++ [(⟨m, m + 1, laws_markIntS_marks (m + 2) x.f2.length⟩ : S105)]) (m + 2 + x.f2.length) (fun y h => hy y (List.mem_cons_of_mem _ h)) (by omega) (by omega) (by simp; omega)
      simp only [List.length_append, List.length_cons, List.length_nil, Nat.zero_add] at h
      simp only [eI, mkI, List.append_assoc, List.cons_append, List.nil_append] at h ⊢
      exact h
theorem hkI_ev (r : List S105) : ∀ (done : List S105) (m : Int), (∀ y ∈ r, y.f2.length ≤ 1048576) → 0 ≤ m → m + 1048578 * (r.length : Int) ≤ 3000000000000 → done.length + r.length ≤ 1048576 → Ev (fun k => laws_heldInodeS.l0 k (done ++ mkI r m) m (done.length : Int)) (eI r m) := by
  induction r with
  | nil =>
    intro done m _ _ _ _
    refine Ev.last (fun k => ?_)
    simp only [laws_heldInodeS.l0, List.append_nil, eI, mkI]
    rw [if_neg (by omega)]
  | cons x r ih =>
    intro done m hy h0 h1 hd
    simp only [List.length_cons] at h1 hd
    have hl := hy x List.mem_cons_self
    have w1 : wrap64 (m + 1) = m + 1 := w64 (by omega) (by omega)
    have w2 : wrap64 (m + 1 + 1) = m + 2 := by rw [w64 (by omega) (by omega)]; omega
    have w3 : wrap64 ((done.length : Int) + 1) = ((done.length + 1 : Nat) : Int) := by rw [w64 (by omega) (by omega)]; omega
    have e1 : ∀ y : S105, rd_T105 (done ++ y :: mkI r (m + 2 + x.f2.length)) (done.length : Int) = y := fun y => at_done z105 done y _
    simp only [mkI, eI]
    refine Ev.step (f := fun k => (laws_heldIntS.f k (laws_markIntS_marks (m + 2) x.f2.length) (m + 2)).bind fun t => if t < 0 then some (-1) else laws_heldInodeS.l0 k (done ++ (⟨m, m + 1, laws_markIntS_marks (m + 2) x.f2.length⟩ : S105) :: mkI r (m + 2 + x.f2.length)) t ((done.length + 1 : Nat) : Int)) (fun k => ?_) (Ev.bind (laws_heldIntS_ev (m + 2) x.f2.length hl (by omega) (by omega)) ?_)
    · simp only [laws_heldInodeS.l0, e1, w1, w2, w3]
      rw [if_pos (by simp; omega), if_pos (by omega), if_pos trivial, if_pos trivial]
    · have h := ih (done ++ [(⟨m, m + 1, laws_markIntS_marks (m + 2) x.f2.length⟩ : S105)]) (m + 2 + x.f2.length) (fun y h => hy y (List.mem_cons_of_mem _ h)) (by omega) (by omega) (by simp; omega)
      simp only [List.length_append, List.length_cons, List.length_nil, Nat.zero_add, List.append_assoc, List.cons_append, List.nil_append] at h
      exact Ev.congr (fun k => by rw [if_neg (by omega)]) h
noncomputable def mkB : List S59 → Int → List S59
  | [], _ => []
  | x :: r, m => ⟨Int.tmod m 3 == 0, slm (m + 1) x.f1.length, mt (m + 1 + 2 * x.f1.length)⟩ :: mkB r (m + 2 + 2 * x.f1.length)
def eB : List S59 → Int → Int
  | [], m => m
  | x :: r, m => eB r (m + 2 + 2 * x.f1.length)
theorem mkB_length (r : List S59) : ∀ m, (mkB r m).length = r.length := by
  induction r with
  | nil => intro m; rfl
  | cons x r ih => intro m; simp [mkB, ih]
theorem eB_range (r : List S59) : ∀ m, m ≤ eB r m := by
  induction r with
  | nil => intro m; simp [eB]
  | cons x r ih =>
    intro m
    have h1 := ih (m + 2 + 2 * x.f1.length)
    simp only [eB]
    omega
theorem mkB_ev (r : List S59) : ∀ (done : List S59) (m : Int), (∀ y ∈ r, y.f1.length ≤ 1048576) → 0 ≤ m → m + 2097154 * (r.length : Int) ≤ 9000000000000 → done.length + r.length ≤ 1048576 → Ev (fun k => laws_markBlockS.l0 k (done ++ r) m (done.length : Int)) (eB r m, done ++ mkB r m) := by
  induction r with
  | nil =>
    intro done m _ _ _ _
    refine Ev.last (fun k => ?_)
    simp only [laws_markBlockS.l0, List.append_nil, eB, mkB]
    rw [if_neg (by omega)]
  | cons x r ih =>
    intro done m hy h0 h1 hd
    simp only [List.length_cons] at h1 hd
    have hl := hy x List.mem_cons_self
    have w1 : wrap64 (m + 1) = m + 1 := w64 (by omega) (by omega)
    have w3 : wrap64 ((done.length : Int) + 1) = ((done.length + 1 : Nat) : Int) := by rw [w64 (by omega) (by omega)]; omega
    have w4 : wrap64 (m + 1 + 2 * (x.f1.length : Int) + 1) = m + 2 + 2 * x.f1.length := by rw [w64 (by omega) (by omega)]; omega
    have e1 : rd_T59 (done ++ x :: r) (done.length : Int) = x := at_done z59 done x r
    refine Ev.step (f := fun k => (laws_markSlotS.f k x.f1 (m + 1)).bind fun bt => (laws_markText.f k bt.1).bind fun t => laws_markBlockS.l0 k ((done ++ [(⟨Int.tmod m 3 == 0, bt.2, t⟩ : S59)]) ++ r) (wrap64 (bt.1 + 1)) ((done.length + 1 : Nat) : Int)) (fun k => ?_) (Ev.bind (markSl_ev x.f1 (m + 1) hl (by omega) (by omega)) (Ev.bind (mt_ev _ (by omega)) ?_))
    · simp only [laws_markBlockS.l0, e1, w1, w3, set_done]
      rw [if_pos (by simp; omega), if_pos (by omega)]
    · have h := ih (done ++ [(⟨Int.tmod m 3 == 0, slm (m + 1) x.f1.length, mt (m + 1 + 2 * x.f1.length)⟩ : S59)]) (m + 2 + 2 * x.f1.length) (fun y h => hy y (List.mem_cons_of_mem _ h)) (by omega) (by omega) (by simp; omega)
      simp only [List.length_append, List.length_cons, List.length_nil, Nat.zero_add] at h
      simp only [w4]
      simp only [eB, mkB, List.append_assoc, List.cons_append, List.nil_append] at h ⊢
      exact h
theorem hkB_ev (r : List S59) : ∀ (done : List S59) (m : Int), (∀ y ∈ r, y.f1.length ≤ 1048576) → 0 ≤ m → m + 2097154 * (r.length : Int) ≤ 9000000000000 → done.length + r.length ≤ 1048576 → Ev (fun k => laws_heldBlockS.l0 k (done ++ mkB r m) m (done.length : Int)) (eB r m) := by
  induction r with
  | nil =>
    intro done m _ _ _ _
    refine Ev.last (fun k => ?_)
    simp only [laws_heldBlockS.l0, List.append_nil, eB, mkB]
    rw [if_neg (by omega)]
  | cons x r ih =>
    intro done m hy h0 h1 hd
    simp only [List.length_cons] at h1 hd
    have hl := hy x List.mem_cons_self
    have w1 : wrap64 (m + 1) = m + 1 := w64 (by omega) (by omega)
    have w3 : wrap64 ((done.length : Int) + 1) = ((done.length + 1 : Nat) : Int) := by rw [w64 (by omega) (by omega)]; omega
    have w4 : wrap64 (m + 1 + 2 * (x.f1.length : Int) + 1) = m + 2 + 2 * x.f1.length := by rw [w64 (by omega) (by omega)]; omega
    have e1 : ∀ y : S59, rd_T59 (done ++ y :: mkB r (m + 2 + 2 * x.f1.length)) (done.length : Int) = y := fun y => at_done z59 done y _
    simp only [mkB, eB]
    refine Ev.step (f := fun k => (laws_heldSlotS.f k (slm (m + 1) x.f1.length) (m + 1)).bind fun t => if t < 0 then some (-1) else (laws_markText.f k t).bind fun s => if (mt (m + 1 + 2 * x.f1.length)).toList = s.toList then laws_heldBlockS.l0 k (done ++ (⟨Int.tmod m 3 == 0, slm (m + 1) x.f1.length, mt (m + 1 + 2 * x.f1.length)⟩ : S59) :: mkB r (m + 2 + 2 * x.f1.length)) (wrap64 (t + 1)) ((done.length + 1 : Nat) : Int) else some (-1)) (fun k => ?_) (Ev.bind (heldSl_ev (m + 1) x.f1.length hl (by omega) (by omega)) ?_)
    · simp only [laws_heldBlockS.l0, e1, w1, w3, bne_self_eq_false, Bool.false_eq_true, if_false]
      rw [if_pos (by simp; omega), if_pos (by omega)]
    · have h := ih (done ++ [(⟨Int.tmod m 3 == 0, slm (m + 1) x.f1.length, mt (m + 1 + 2 * x.f1.length)⟩ : S59)]) (m + 2 + 2 * x.f1.length) (fun y h => hy y (List.mem_cons_of_mem _ h)) (by omega) (by omega) (by simp; omega)
      simp only [List.length_append, List.length_cons, List.length_nil, Nat.zero_add, List.append_assoc, List.cons_append, List.nil_append] at h
      refine Ev.congr (fun k => by rw [if_neg (by omega)]) (Ev.bind (mt_ev _ (by omega)) ?_)
      simp only [if_true, w4]
      exact h

noncomputable def sm (m : Int) (n : Nat) : List ByteArray := (List.range n).map fun j : Nat => mt (m + (j : Int))
theorem sm_length (m : Int) (n : Nat) : (sm m n).length = n := by simp [sm]
theorem sm_at (m : Int) (n i : Nat) (h : i < n) (d : ByteArray) : (sm m n).getD i d = mt (m + (i : Int)) := by
  unfold sm
  rw [List.getD_eq_getElem?_getD, List.getElem?_map, List.getElem?_range h]
  rfl
theorem markS_loop (m : Int) (n : Nat) (hn : n ≤ 1048576) (m0 : 0 ≤ m) (m1 : m ≤ 10000000000000) (d : Nat) : ∀ (x : List ByteArray) (i : Nat), x.length = n → i ≤ n → n - i = d → x.take i = (sm m n).take i → Ev (fun k => laws_markStringS.l0 k x (m + i) (i : Int)) (m + n, sm m n) := by
  induction d with
  | zero =>
    intro x i hx hi hd ht
    obtain rfl : i = n := by omega
    have e : x = sm m i := take_all (by rw [hx, sm_length]) (by rw [sm_length]; exact ht)
    subst e
    exact Ev.last (fun k => by simp only [laws_markStringS.l0]; rw [if_neg (by omega)])
  | succ d ih =>
    intro x i hx hi hd ht
    have hs := set_take (sm m n) x ByteArray.empty i (by rw [sm_length]; omega) (by rw [hx, sm_length]) ht
    rw [sm_at m n i (by omega)] at hs
    refine Ev.step (f := fun k => (laws_markText.f k (m + i)).bind fun t => laws_markStringS.l0 k (x.set i t) (m + ((i + 1 : Nat) : Int)) ((i + 1 : Nat) : Int)) (fun k => ?_) (Ev.bind (mt_ev (m + (i : Int)) (by omega)) (ih (x.set i (mt (m + (i : Int)))) (i + 1) (by rw [List.length_set]; exact hx) (by omega) (by omega) hs))
    simp only [laws_markStringS.l0]
    rw [if_pos (by omega), w64 (x := m + i + 1) (by omega) (by omega), w64 (x := (i : Int) + 1) (by omega) (by omega), Int.toNat_natCast, show m + (i : Int) + 1 = m + ((i + 1 : Nat) : Int) by omega, show (i : Int) + 1 = ((i + 1 : Nat) : Int) by omega]
    simp only [if_pos (show (0 : Int) ≤ (i : Int) by omega)]
theorem markS_ev (l : List ByteArray) (m : Int) (hn : l.length ≤ 1048576) (m0 : 0 ≤ m) (m1 : m ≤ 10000000000000) : Ev (fun k => laws_markStringS.f k l m) (m + l.length, sm m l.length) := by
  have h := markS_loop m l.length hn m0 m1 l.length l 0 rfl (by omega) (by omega) (by simp)
  refine Ev.congr (fun k => ?_) h
  unfold laws_markStringS.f
  simp

theorem markDevice_ev (l : List ByteArray) (hn : l.length ≤ 1048576) : Ev (fun k => laws_markDevice.f k l 1) (1 + l.length, sm 1 l.length) := by
  unfold laws_markDevice.f
  exact Ev.bind (markS_ev l 1 hn (by omega) (by omega)) (Ev.now _)

/-- The inode of four bytes. -/
def IN (s : ByteArray) : Int × Int × List Int := if (RI s).2.2.2 = true then ((RI s).1, (RI s).2.1, (RI s).2.2.1) else (0, 0, [0, 0])
theorem inodeof_ev (s : ByteArray) : Ev (fun k => impl_inodeOf.f k s) (IN s) := by
  unfold impl_inodeOf.f
  refine Ev.bind (impl_readinode s) (Ev.now' fun k => ?_)
  unfold IN
  by_cases h : (RI s).2.2.2 = true
  · rw [if_pos h, if_pos h]
  · rw [if_neg h, if_neg h]
    rfl
theorem IN_len (s : ByteArray) : (IN s).2.2.length = 2 := by
  unfold IN RI
  by_cases h : s.size = 4 ∧ IOk (bt s 0) (bt s 1) [bt s 2, bt s 3]
  · simp [if_pos h]
  · simp [if_neg h]
def Z8 : ByteArray := strOfNums ([0, 0, 0, 0, 0, 0, 0, 0].map (· % 256))
theorem Z8_lo : IN (Z8.extract 0 4) = (0, 0, [0, 0]) := by decide +kernel
theorem Z8_hi : IN (Z8.extract 4 8) = (0, 0, [0, 0]) := by decide +kernel
theorem Z8_size : Z8.size = 8 := by decide +kernel
/-- What a unit of inodes holds, as impl reads it. -/
def U8 (s : ByteArray) : ByteArray := if s.size = 8 then s else Z8
theorem U8_size (s : ByteArray) : (U8 s).size = 8 := by
  unfold U8
  split
  · assumption
  · exact Z8_size
def sI (r : Int × Int × List Int) : S105 := ⟨r.1, r.2.1, r.2.2⟩
def IL : List ByteArray → List S105
  | [] => []
  | s :: r => sI (IN ((U8 s).extract 0 4)) :: sI (IN ((U8 s).extract 4 8)) :: IL r
theorem impl_inodes (r : List ByteArray) : ∀ (us done : List ByteArray) (acc : List S105), us = done ++ r → us.length ≤ 1000 → acc.length = 2 * done.length → Ev (fun k => impl_DiskOf.l0 k us (done.length : Int) acc) (acc ++ IL r) := by
  induction r with
  | nil =>
    intro us done acc e hl ha
    subst e
    refine Ev.last (fun k => ?_)
    simp only [impl_DiskOf.l0, List.append_nil, IL]
    rw [if_neg (by omega)]
  | cons s r ih =>
    intro us done acc e hl ha
    have hd : done.length < us.length := by rw [e]; simp
    have w3 : wrap64 ((done.length : Int) + 1) = ((done.length + 1 : Nat) : Int) := by rw [w64 (by omega) (by omega)]; omega
    have e1 : rdOf ByteArray.empty us (done.length : Int) = s := by rw [e]; exact by simp [rdOf]
    have hz := U8_size s
    have hU : Ev (fun k => if (s.size : Int) = 8 then some s else impl_byteTexts.f k [0, 0, 0, 0, 0, 0, 0, 0]) (U8 s) := by
      unfold U8
      by_cases h8 : s.size = 8
      · rw [if_pos h8]
        exact Ev.now' fun k => by rw [if_pos (by omega)]
      · rw [if_neg h8]
        exact Ev.congr (fun k => by rw [if_neg (by omega)]) (bytetexts_ev [0, 0, 0, 0, 0, 0, 0, 0] (by decide))
    refine Ev.step (f := fun k => (if (s.size : Int) = 8 then some s else impl_byteTexts.f k [0, 0, 0, 0, 0, 0, 0, 0]).bind fun t => if 4 ≤ (t.size : Int) then ((impl_inodeOf.f k (t.extract 0 4)).bind fun a => (impl_inodeOf.f k (t.extract 4 t.size)).bind fun b => if acc.length < 1000000 then impl_DiskOf.l0 k us ((done.length + 1 : Nat) : Int) (acc ++ [(⟨a.1, a.2.1, a.2.2⟩ : S105), (⟨b.1, b.2.1, b.2.2⟩ : S105)]) else none) else none) (fun k => ?_) (Ev.bind hU ?_)
    · simp only [impl_DiskOf.l0, e1, w3]
      rw [if_pos (by omega), if_pos (by omega)]
    · refine Ev.congr (fun k => by rw [if_pos (by omega)]) (Ev.bind (inodeof_ev _) (Ev.bind (inodeof_ev _) ?_))
      have h := ih us (done ++ [s]) (acc ++ [sI (IN ((U8 s).extract 0 4)), sI (IN ((U8 s).extract 4 8))]) (by rw [e]; simp) hl (by simp; omega)
      simp only [List.length_append, List.length_cons, List.length_nil, Nat.zero_add, List.append_assoc, List.cons_append, List.nil_append] at h
      rw [hz]
      exact Ev.congr (fun k => by rw [if_pos (by omega)]; rfl) h
/-- The block of a text. -/
noncomputable def RK (s : ByteArray) : Bool × List S69 × ByteArray × Bool := @Classical.epsilon (Bool × List S69 × ByteArray × Bool) ⟨(false, [], ⟨#[]⟩, false)⟩ (fun R => Ev (fun k => spec_ReadBlock.f k s) R ∧ Ev (fun k => impl_ReadBlock.f k s) R ∧ RbOk s R)
theorem RK_ev (s : ByteArray) (hs : s.size ≤ 1048576) : Ev (fun k => spec_ReadBlock.f k s) (RK s) ∧ Ev (fun k => impl_ReadBlock.f k s) (RK s) ∧ RbOk s (RK s) := Classical.epsilon_spec (readblock_ev s hs)
noncomputable def BL (us : List ByteArray) : List S59 := us.map fun s => (⟨(RK s).1, (RK s).2.1, (RK s).2.2.1⟩ : S59)
theorem impl_blocks (r : List ByteArray) : ∀ (us done : List ByteArray) (acc : List S59), us = done ++ r → us.length ≤ 1000 → (∀ s ∈ us, s.size ≤ 1048576) → acc.length = done.length → Ev (fun k => impl_DiskOf.l1 k us (done.length : Int) acc) (acc ++ BL r) := by
  induction r with
  | nil =>
    intro us done acc e hl hs ha
    subst e
    refine Ev.last (fun k => ?_)
    simp only [impl_DiskOf.l1, List.append_nil, BL, List.map_nil]
    rw [if_neg (by omega)]
  | cons s r ih =>
    intro us done acc e hl hs ha
    have hd : done.length < us.length := by rw [e]; simp
    have w3 : wrap64 ((done.length : Int) + 1) = ((done.length + 1 : Nat) : Int) := by rw [w64 (by omega) (by omega)]; omega
    have e1 : rdOf ByteArray.empty us (done.length : Int) = s := by rw [e]; exact by simp [rdOf]
    have hR := (RK_ev s (hs s (by rw [e]; simp))).2.1
    refine Ev.step (f := fun k => (impl_ReadBlock.f k s).bind fun b => if acc.length < 1000000 then impl_DiskOf.l1 k us ((done.length + 1 : Nat) : Int) (acc ++ [(⟨b.1, b.2.1, b.2.2.1⟩ : S59)]) else none) (fun k => ?_) (Ev.bind hR ?_)
    · simp only [impl_DiskOf.l1, e1, w3]
      rw [if_pos (by omega), if_pos (by omega)]
    · have h := ih us (done ++ [s]) (acc ++ [(⟨(RK s).1, (RK s).2.1, (RK s).2.2.1⟩ : S59)]) (by rw [e]; simp) hl hs (by simp; omega)
      simp only [List.length_append, List.length_cons, List.length_nil, Nat.zero_add, List.append_assoc, List.cons_append, List.nil_append] at h
      exact Ev.congr (fun k => by rw [if_pos (by omega)]) h
/-- spec's inodes: the i-th. -/
def SI (us : List ByteArray) (i : Nat) : S105 := if (us.getD (1 + i / 2) ByteArray.empty).size = 8 then sI (IN ((us.getD (1 + i / 2) ByteArray.empty).extract (4 * (i % 2)) (4 * (i % 2) + 4))) else sI (0, 0, [0, 0])
theorem spec_inodes (us : List ByteArray) (a b : List Bool) (hu : us.length = 21) (R : List Bool × List Bool × List S105 × List S59 × Bool) (hR : Ev (fun k => spec_DiskOf.l3 k 0 us a b ((List.range 8).map (SI us)) []) R) (d : Nat) : ∀ i : Nat, i ≤ 8 → 8 - i = d → Ev (fun k => spec_DiskOf.l2 k (i : Int) us a b ((List.range i).map (SI us))) R := by
  induction d with
  | zero =>
    intro i hi hd
    obtain rfl : i = 8 := by omega
    exact Ev.step (fun k => by simp only [spec_DiskOf.l2]; rw [if_neg (by omega)]) hR
  | succ d ih =>
    intro i hi hd
    have w1 : wrap64 (Int.tdiv (i : Int) 2) = ((i / 2 : Nat) : Int) := by rw [tdiv_nn (by omega), w64 (by omega) (by omega)]; omega
    have w2 : wrap64 (1 + ((i / 2 : Nat) : Int)) = ((1 + i / 2 : Nat) : Int) := by rw [w64 (by omega) (by omega)]; omega
    have w3 : wrap64 (4 * Int.tmod (i : Int) 2) = ((4 * (i % 2) : Nat) : Int) := by rw [tmod_nn (by omega), w64 (by omega) (by omega)]; omega
    have w4 : wrap64 (((4 * (i % 2) : Nat) : Int) + 4) = ((4 * (i % 2) + 4 : Nat) : Int) := by rw [w64 (by omega) (by omega)]; omega
    have w5 : wrap64 ((i : Int) + 1) = ((i + 1 : Nat) : Int) := by rw [w64 (by omega) (by omega)]; omega
    have e1 : rdOf ByteArray.empty us ((1 + i / 2 : Nat) : Int) = us.getD (1 + i / 2) ByteArray.empty := rfl
    have e2 : (List.range (i + 1)).map (SI us) = (List.range i).map (SI us) ++ [SI us i] := by rw [List.range_succ, List.map_append]; rfl
    have hn := ih (i + 1) (by omega) (by omega)
    rw [e2] at hn
    have key : ∀ k, spec_DiskOf.l2 (k + 1) (i : Int) us a b ((List.range i).map (SI us)) = (spec_InodeNew.f 0).bind fun n => if ((us.getD (1 + i / 2) ByteArray.empty).size : Int) = 8 then (if ((4 * (i % 2) : Nat) : Int) ≤ ((4 * (i % 2) + 4 : Nat) : Int) then (if ((4 * (i % 2) + 4 : Nat) : Int) ≤ ((us.getD (1 + i / 2) ByteArray.empty).size : Int) then ((spec_ReadInode.f k ((us.getD (1 + i / 2) ByteArray.empty).extract (4 * (i % 2)) (4 * (i % 2) + 4))).bind fun q => if q.2.2.2 = true then (if ((List.range i).map (SI us)).length < 3518437208883 then spec_DiskOf.l2 k ((i + 1 : Nat) : Int) us a b ((List.range i).map (SI us) ++ [(⟨q.1, q.2.1, q.2.2.1⟩ : S105)]) else none) else (if ((List.range i).map (SI us)).length < 3518437208883 then spec_DiskOf.l2 k ((i + 1 : Nat) : Int) us a b ((List.range i).map (SI us) ++ [(⟨n.1, n.2.1, n.2.2⟩ : S105)]) else none)) else none) else none) else (if ((List.range i).map (SI us)).length < 3518437208883 then spec_DiskOf.l2 k ((i + 1 : Nat) : Int) us a b ((List.range i).map (SI us) ++ [(⟨n.1, n.2.1, n.2.2⟩ : S105)]) else none) := fun k => by
      simp only [spec_DiskOf.l2, w1, w2, w3, w4, w5, e1, Int.toNat_natCast]
      rw [if_pos (by omega), if_pos (by omega), if_pos (by omega)]
      simp only [if_pos (show (0 : Int) ≤ ((4 * (i % 2) : Nat) : Int) by omega)]
    have hnew : spec_InodeNew.f 0 = some (0, 0, [0, 0]) := rfl
    have hlen : ((List.range i).map (SI us)).length < 3518437208883 := by simp; omega
    refine Ev.step key ?_
    simp only [hnew, Option.bind_some, if_pos hlen]
    by_cases h8 : (us.getD (1 + i / 2) ByteArray.empty).size = 8
    · simp only [if_pos (show ((us.getD (1 + i / 2) ByteArray.empty).size : Int) = 8 by omega), if_pos (show ((4 * (i % 2) : Nat) : Int) ≤ ((4 * (i % 2) + 4 : Nat) : Int) by omega), if_pos (show ((4 * (i % 2) + 4 : Nat) : Int) ≤ ((us.getD (1 + i / 2) ByteArray.empty).size : Int) by omega)]
      have e3 : SI us i = sI (IN ((us.getD (1 + i / 2) ByteArray.empty).extract (4 * (i % 2)) (4 * (i % 2) + 4))) := by unfold SI; rw [if_pos h8]
      rw [e3] at hn
      refine Ev.bind (spec_readinode _) ?_
      unfold IN at hn
      by_cases ho : (RI ((us.getD (1 + i / 2) ByteArray.empty).extract (4 * (i % 2)) (4 * (i % 2) + 4))).2.2.2 = true
      · rw [if_pos ho] at hn
        simp only [if_pos ho]
        exact hn
      · rw [if_neg ho] at hn
        simp only [if_neg ho]
        exact hn
    · simp only [if_neg (show ¬ ((us.getD (1 + i / 2) ByteArray.empty).size : Int) = 8 by omega)]
      have e3 : SI us i = sI (0, 0, [0, 0]) := by unfold SI; rw [if_neg h8]
      rw [e3] at hn
      exact hn
theorem spec_blocks (us : List ByteArray) (a b : List Bool) (I : List S105) (hu : us.length = 21) (hs : ∀ s ∈ us, s.size ≤ 1048576) (d : Nat) : ∀ i : Nat, i ≤ 16 → 16 - i = d → Ev (fun k => spec_DiskOf.l3 k (i : Int) us a b I ((BL (us.drop 5)).take i)) (a, b, I, BL (us.drop 5), true) := by
  have hbl : (BL (us.drop 5)).length = 16 := by simp [BL]; omega
  induction d with
  | zero =>
    intro i hi hd
    obtain rfl : i = 16 := by omega
    refine Ev.last (fun k => ?_)
    simp only [spec_DiskOf.l3]
    rw [if_neg (by omega), List.take_of_length_le (by omega)]
  | succ d ih =>
    intro i hi hd
    have w2 : wrap64 (5 + (i : Int)) = ((5 + i : Nat) : Int) := by rw [w64 (by omega) (by omega)]; omega
    have w5 : wrap64 ((i : Int) + 1) = ((i + 1 : Nat) : Int) := by rw [w64 (by omega) (by omega)]; omega
    have hlt : 5 + i < us.length := by omega
    have e1 : rdOf ByteArray.empty us ((5 + i : Nat) : Int) = us[5 + i] := by
      show us.getD (5 + i) ByteArray.empty = _
      rw [List.getD_eq_getElem?_getD, List.getElem?_eq_getElem hlt]
      rfl
    have hR := (RK_ev (us[5 + i]) (hs _ (List.getElem_mem hlt))).1
    have e2 : (BL (us.drop 5)).take (i + 1) = (BL (us.drop 5)).take i ++ [(⟨(RK us[5 + i]).1, (RK us[5 + i]).2.1, (RK us[5 + i]).2.2.1⟩ : S59)] := by
      rw [List.take_add_one, show (BL (us.drop 5))[i]? = some (⟨(RK us[5 + i]).1, (RK us[5 + i]).2.1, (RK us[5 + i]).2.2.1⟩ : S59) from by simp [BL, List.getElem?_drop, List.getElem?_eq_getElem hlt]]
      rfl
    have hn := ih (i + 1) (by omega) (by omega)
    rw [e2] at hn
    have hl2 : ((BL (us.drop 5)).take i).length < 2932031007402 := by rw [List.length_take]; omega
    refine Ev.step (f := fun k => (spec_ReadBlock.f k us[5 + i]).bind fun q => if ((BL (us.drop 5)).take i).length < 2932031007402 then spec_DiskOf.l3 k ((i + 1 : Nat) : Int) us a b I ((BL (us.drop 5)).take i ++ [(⟨q.1, q.2.1, q.2.2.1⟩ : S59)]) else none) (fun k => ?_) (Ev.bind hR (Ev.congr (fun k => by rw [if_pos hl2]) hn))
    simp only [spec_DiskOf.l3, w2, w5, e1]
    rw [if_pos (by omega), if_pos (by omega), if_pos (by omega)]
theorem spec_set0 (us : List ByteArray) (b : List Bool) (n : Nat) (hn : n ≤ 1000) (R : List Bool × List Bool × List S105 × List S59 × Bool) (hR : Ev (fun k => spec_DiskOf.l1 k 0 us (List.replicate n true) b) R) (d : Nat) : ∀ (i : Nat) (a : List Bool), i ≤ n → n - i = d → a.length = n → a.take i = (List.replicate n true).take i → Ev (fun k => spec_DiskOf.l0 k (i : Int) us a b) R := by
  induction d with
  | zero =>
    intro i a hi hd hl ht
    obtain rfl : i = n := by omega
    have e : a = List.replicate i true := take_all (by simp [hl]) (by simpa using ht)
    subst e
    exact Ev.step (fun k => by simp only [spec_DiskOf.l0]; rw [if_neg (by omega)]) hR
  | succ d ih =>
    intro i a hi hd hl ht
    have w5 : wrap64 ((i : Int) + 1) = ((i + 1 : Nat) : Int) := by rw [w64 (by omega) (by omega)]; omega
    have h := set_take (List.replicate n true) a false i (by simp; omega) (by simp [hl]) ht
    rw [show (List.replicate n true).getD i false = true from by rw [List.getD_eq_getElem?_getD, List.getElem?_replicate, if_pos (by omega)]; rfl] at h
    refine Ev.step (fun k => ?_) (ih (i + 1) (a.set i true) (by omega) (by omega) (by simp [hl]) h)
    simp only [spec_DiskOf.l0, w5, Int.toNat_natCast]
    rw [if_pos (by omega), if_pos (by omega)]
theorem spec_set1 (us : List ByteArray) (a : List Bool) (n : Nat) (hn : n ≤ 1000) (R : List Bool × List Bool × List S105 × List S59 × Bool) (hR : Ev (fun k => spec_DiskOf.j2 k us a (List.replicate n true)) R) (d : Nat) : ∀ (i : Nat) (b : List Bool), i ≤ n → n - i = d → b.length = n → b.take i = (List.replicate n true).take i → Ev (fun k => spec_DiskOf.l1 k (i : Int) us a b) R := by
  induction d with
  | zero =>
    intro i b hi hd hl ht
    obtain rfl : i = n := by omega
    have e : b = List.replicate i true := take_all (by simp [hl]) (by simpa using ht)
    subst e
    exact Ev.step (fun k => by simp only [spec_DiskOf.l1]; rw [if_neg (by omega)]) hR
  | succ d ih =>
    intro i b hi hd hl ht
    have w5 : wrap64 ((i : Int) + 1) = ((i + 1 : Nat) : Int) := by rw [w64 (by omega) (by omega)]; omega
    have h := set_take (List.replicate n true) b false i (by simp; omega) (by simp [hl]) ht
    rw [show (List.replicate n true).getD i false = true from by rw [List.getD_eq_getElem?_getD, List.getElem?_replicate, if_pos (by omega)]; rfl] at h
    refine Ev.step (fun k => ?_) (ih (i + 1) (b.set i true) (by omega) (by omega) (by simp [hl]) h)
    simp only [spec_DiskOf.l1, w5, Int.toNat_natCast]
    rw [if_pos (by omega), if_pos (by omega)]
theorem SI_is (us : List ByteArray) (hu : us.length = 21) : (List.range 8).map (SI us) = IL ((us.take 5).tail) := by
  match us, hu with
  | x0 :: x1 :: x2 :: x3 :: x4 :: r, _ =>
    have lo : ∀ s : ByteArray, (if s.size = 8 then sI (IN (s.extract 0 4)) else sI (0, 0, [0, 0])) = sI (IN ((U8 s).extract 0 4)) := fun s => by
      unfold U8
      split
      · rfl
      · rw [Z8_lo]
    have hi : ∀ s : ByteArray, (if s.size = 8 then sI (IN (s.extract 4 8)) else sI (0, 0, [0, 0])) = sI (IN ((U8 s).extract 4 8)) := fun s => by
      unfold U8
      split
      · rfl
      · rw [Z8_hi]
    show [SI _ 0, SI _ 1, SI _ 2, SI _ 3, SI _ 4, SI _ 5, SI _ 6, SI _ 7] = [sI (IN ((U8 x1).extract 0 4)), sI (IN ((U8 x1).extract 4 8)), sI (IN ((U8 x2).extract 0 4)), sI (IN ((U8 x2).extract 4 8)), sI (IN ((U8 x3).extract 0 4)), sI (IN ((U8 x3).extract 4 8)), sI (IN ((U8 x4).extract 0 4)), sI (IN ((U8 x4).extract 4 8))]
    rw [← lo x1, ← hi x1, ← lo x2, ← hi x2, ← lo x3, ← hi x3, ← lo x4, ← hi x4]
    rfl
theorem IL_lim (r : List ByteArray) : (∀ x ∈ IL r, x.f2.length ≤ 1048576) ∧ (IL r).length = 2 * r.length := by
  induction r with
  | nil => exact ⟨fun x hx => by simp [IL] at hx, rfl⟩
  | cons s r ih =>
    refine ⟨fun x hx => ?_, by simp only [IL, List.length_cons, ih.2]; omega⟩
    simp only [IL, List.mem_cons] at hx
    rcases hx with rfl | rfl | hx
    · show (IN _).2.2.length ≤ _
      rw [IN_len]; omega
    · show (IN _).2.2.length ≤ _
      rw [IN_len]; omega
    · exact ih.1 x hx
/-- Both DiskOfs answer the same. -/
theorem disk_ev (us : List ByteArray) (hl : us.length ≤ 1048576) : ∃ (a b : List Bool) (I : List S105) (B : List S59) (ok : Bool), Ev (fun k => spec_DiskOf.f k us) (a, b, I, B, ok) ∧ Ev (fun k => impl_DiskOf.f k us) (a, b, I, B, ok) ∧ a.length ≤ 1048576 ∧ b.length ≤ 1048576 ∧ (I.length ≤ 1000 ∧ ∀ x ∈ I, x.f2.length ≤ 1048576) ∧ (B.length ≤ 1000 ∧ ∀ x ∈ B, x.f1.length ≤ 1048576) := by
  obtain ⟨r, h1, h2, h3⟩ := deviceok_ev us hl
  by_cases hr : r = true
  · subst hr
    obtain ⟨hu, hs⟩ := h3 rfl
    have hs' : ∀ s ∈ us, s.size ≤ 1048576 := fun s h => by have := hs s h; omega
    have hI := IL_lim ((us.take 5).tail)
    have hj : ∀ a b, Ev (fun k => spec_DiskOf.j2 k us a b) (a, b, IL ((us.take 5).tail), BL (us.drop 5), true) := fun a b => by
      have h := spec_inodes us a b hu (a, b, IL ((us.take 5).tail), BL (us.drop 5), true) (by rw [SI_is us hu]; exact spec_blocks us a b _ hu hs' 16 0 (by omega) (by omega)) 8 0 (by omega) (by omega)
      exact Ev.step (fun k => by simp only [spec_DiskOf.j2]; rfl) h
    have hi0 : Ev (fun k => impl_DiskOf.l0 k ((us.take 5).tail) 0 []) (IL ((us.take 5).tail)) := impl_inodes ((us.take 5).tail) ((us.take 5).tail) [] [] rfl (by simp; omega) rfl
    have hi1 : Ev (fun k => impl_DiskOf.l1 k (us.drop 5) 0 []) (BL (us.drop 5)) := impl_blocks (us.drop 5) (us.drop 5) [] [] rfl (by simp; omega) (fun s h => hs' s (List.mem_of_mem_drop h)) rfl
    have hB : (BL (us.drop 5)).length ≤ 1000 ∧ ∀ x ∈ BL (us.drop 5), x.f1.length ≤ 1048576 := by
      refine ⟨by simp [BL]; omega, fun x hx => ?_⟩
      obtain ⟨s, hm, rfl⟩ := List.mem_map.1 hx
      have := (RK_ev s (hs' s (List.mem_of_mem_drop hm))).2.2.1
      show (RK s).2.1.length ≤ _
      omega
    have hRB := rb_len (rdOf ByteArray.empty us 0)
    have es := spec_readbits (rdOf ByteArray.empty us 0)
    have ei := impl_readbits (rdOf ByteArray.empty us 0)
    generalize RB (rdOf ByteArray.empty us 0) = q at hRB es ei
    obtain ⟨q0, q1, qo⟩ := q
    refine ⟨if qo = true then q0 else List.replicate 16 true, if qo = true then q1 else List.replicate 8 true, IL ((us.take 5).tail), BL (us.drop 5), true, ?_, ?_, ?_, ?_, ⟨by have := hI.2; simp at this; omega, hI.1⟩, hB⟩
    · unfold spec_DiskOf.f
      refine Ev.bind h1 (Ev.congr (fun k => by rw [if_pos rfl, if_pos (by omega)]) (Ev.bind es ?_))
      by_cases ho : qo = true
      · simp only [if_pos ho]
        exact hj q0 q1
      · simp only [if_neg ho]
        have hb0 : spec_BitsNew.f = some (List.replicate 16 false, (List.replicate 8 false).set 0 true) := rfl
        simp only [hb0, Option.bind_some]
        exact spec_set0 us _ 16 (by omega) _ (spec_set1 us _ 8 (by omega) _ (hj _ _) 8 0 _ (by omega) (by omega) (by simp) (by simp)) 16 0 _ (by omega) (by omega) (by simp) (by simp)
    · unfold impl_DiskOf.f
      refine Ev.bind h2 (Ev.congr (fun k => by rw [if_pos rfl, if_pos (by omega)]) (Ev.bind ei ?_))
      refine Ev.bind hi0 ?_
      refine Ev.bind hi1 ?_
      exact Ev.now' fun _ => rfl
    · split
      · exact hRB.1
      · simp
    · split
      · exact hRB.2
      · simp
  · refine ⟨[], [], [], [], false, ?_, ?_, by simp, by simp, ⟨by simp, by simp⟩, ⟨by simp, by simp⟩⟩
    · unfold spec_DiskOf.f
      exact Ev.bind h1 (Ev.now' fun k => by rw [if_neg hr])
    · unfold impl_DiskOf.f
      exact Ev.bind h2 (Ev.now' fun k => by rw [if_neg hr])
/-- ALL THAT THE WALK ASKS, AT ONE NUMBER OF ROUNDS. -/
theorem facts (l : List ByteArray) (hg : l.length * 16 ≤ 140737488351232 ∧ ∀ s ∈ l, s.size ≤ 140737488351232) : ∃ (k : Nat) (left : Int), laws_szDevice.f k l 1048576 = some left ∧ (left < 0 ∨ (0 ≤ left ∧ ∃ (t : List ByteArray) (a b : List Bool) (I : List S105) (B : List S59) (ok : Bool) (d : Int) (ts : List ByteArray) (m1 m2 m : Int) (r0 r1 : List Bool) (r2 : List S105) (r3 : List S59),
    laws_toDevice.f k l = some t ∧ spec_DiskOf.f k t = some (a, b, I, B, ok) ∧ impl_DiskOf.f k t = some (a, b, I, B, ok) ∧ laws_eqDisk.f k a b I B a b I B = some true ∧ laws_eqDevice.f k t t = some true ∧ laws_markDevice.f k t 1 = some (d, ts) ∧ 0 ≤ d ∧
    laws_markBits.f k a b 1 = some (m1, r0, r1) ∧ laws_markInodeS.f k I m1 = some (m2, r2) ∧ laws_markBlockS.f k B m2 = some (m, r3) ∧ 0 ≤ m ∧ laws_heldDisk.f k r0 r1 r2 r3 1 = some m ∧ r0.length = a.length ∧ r1.length = b.length ∧ r2.length = I.length ∧ r3.length = B.length)) := by
  obtain ⟨left, hr, hlim⟩ := szDevice_ev l (by omega) hg.2
  by_cases hneg : left < 0
  · obtain ⟨K, h⟩ := hr
    exact ⟨K, left, h K (by omega), .inl hneg⟩
  · obtain ⟨hl, _⟩ := hlim (by omega)
    have e1 := toDevice_ev l hl
    obtain ⟨a, b, I, B, ok, e2, e3, ha, hb, ⟨hI, hi⟩, hB, hc⟩ := disk_ev l hl
    have e4 := eqDisk_ev a b I B ha hb (by omega) hi (by omega) hc
    have e5 := eqDevice_ev l hl
    have e6 := markDevice_ev l hl
    have e7 := markBits_ev a b ha hb
    have rI := eI_range I (1 + a.length + b.length) hi
    have rB := eB_range B (eI I (1 + a.length + b.length))
    have e8 := mkI_ev I [] (1 + a.length + b.length) hi (by omega) (by omega) (by simp; omega)
    have e9 := mkB_ev B [] (eI I (1 + a.length + b.length)) hc (by omega) (by omega) (by simp; omega)
    have f8 := hkI_ev I [] (1 + a.length + b.length) hi (by omega) (by omega) (by simp; omega)
    have f9 := hkB_ev B [] (eI I (1 + a.length + b.length)) hc (by omega) (by omega) (by simp; omega)
    have f8' : Ev (fun k => laws_heldInodeS.f k (mkI I (1 + a.length + b.length)) (1 + a.length + b.length)) (eI I (1 + a.length + b.length)) := f8
    have f9' : Ev (fun k => laws_heldBlockS.f k (mkB B (eI I (1 + a.length + b.length))) (eI I (1 + a.length + b.length))) (eB B (eI I (1 + a.length + b.length))) := f9
    have e10 : Ev (fun k => laws_heldDisk.f k (laws_markBoolS_marks 1 a.length) (laws_markBoolS_marks (1 + a.length) b.length) (mkI I (1 + a.length + b.length)) (mkB B (eI I (1 + a.length + b.length))) 1) (eB B (eI I (1 + a.length + b.length))) := by
      unfold laws_heldDisk.f
      refine Ev.bind (heldBits_ev a.length b.length ha hb) (Ev.congr (fun k => by rw [if_neg (by omega)]) (Ev.bind f8' (Ev.congr (fun k => by rw [if_neg (by omega)]) (Ev.bind f9' (Ev.now' fun k => by rw [if_neg (by omega)])))))
    obtain ⟨K0, h0⟩ := hr
    obtain ⟨K1, h1⟩ := e1
    obtain ⟨K2, h2⟩ := e2
    obtain ⟨K3, h3⟩ := e3
    obtain ⟨K4, h4⟩ := e4
    obtain ⟨K5, h5⟩ := e5
    obtain ⟨K6, h6⟩ := e6
    obtain ⟨K7, h7⟩ := e7
    obtain ⟨K8, h8⟩ := e8
    obtain ⟨K9, h9⟩ := e9
    obtain ⟨K10, h10⟩ := e10
    exact ⟨K0 + K1 + K2 + K3 + K4 + K5 + K6 + K7 + K8 + K9 + K10, left, h0 _ (by omega), .inr ⟨by omega, l, a, b, I, B, ok, _, _, _, _, _, _, _, mkI I (1 + a.length + b.length), mkB B (eI I (1 + a.length + b.length)), h1 _ (by omega), h2 _ (by omega), h3 _ (by omega), h4 _ (by omega), h5 _ (by omega), h6 _ (by omega), by omega, h7 _ (by omega), h8 _ (by omega), h9 _ (by omega), by omega, h10 _ (by omega), by simp [laws_markBoolS_marks_length], by simp [laws_markBoolS_marks_length], mkI_length _ _, mkB_length _ _⟩⟩
end Go.Proofs.Ytdnbpapolckklaa.Pure
