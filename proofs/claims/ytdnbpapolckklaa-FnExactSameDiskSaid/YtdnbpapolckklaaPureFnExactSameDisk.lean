/- FnExactSameDisk: for every two Disks the program's SameDisk answers what the reference's does, and leaves its arguments as they were; no condition. -/
import Derived.Test.YtdnbpapolckklaaPFnExactSameDiskx11
import Derived.Test.YtdnbpapolckklaaAid
namespace Go.Proofs.Ytdnbpapolckklaa.Pure
open Go.RowKit Go.Proofs.Ytdnbpapolckklaa.PFnExactSameDisk Go.Proofs.YtdnbpapolckklaaW.PrintWords Go.Proofs.YtdnbpapolckklaaW.PrintLast Go.Proofs.YtdnbpapolckklaaW.PrintMore Go.Proofs.Ytdnbpapolckklaa.Aid
set_option linter.unusedVariables false
set_option linter.unusedSimpArgs false

theorem laws_szBoolS_eq (l : List (Bool)) (a : Int) (hl : l.length ≤ 140737488355328) (h0 : 0 ≤ a) (h1 : a ≤ 1048576) : laws_szBoolS.f l a = some (if a - l.length < 0 then -1 else a - l.length) := by
  unfold laws_szBoolS.f
  rw [w64 (by omega) (by omega)]
  split <;> rfl

theorem szBits_eq (a b : List Bool) (m : Int) (ha : a.length ≤ 140737488355328) (hb : b.length ≤ 140737488355328) (m0 : 0 ≤ m) (m1 : m ≤ 1048576) : ∃ r, laws_szBits.f a b m = some r ∧ r ≤ m ∧ (0 ≤ r → a.length ≤ 1048576 ∧ b.length ≤ 1048576) := by
  unfold laws_szBits.f
  rw [laws_szBoolS_eq a m (by omega) m0 m1]
  simp only [Option.bind_some]
  by_cases h1 : m - a.length < 0
  · exact ⟨-1, by simp [h1], by omega, fun h => by omega⟩
  · rw [if_neg h1, if_neg h1, laws_szBoolS_eq b _ (by omega) (by omega) (by omega)]
    simp only [Option.bind_some]
    by_cases h2 : m - a.length - b.length < 0
    · exact ⟨-1, by simp [h2], by omega, fun h => by omega⟩
    · exact ⟨m - a.length - b.length, by simp [h2], by omega, fun h => by omega⟩

theorem laws_toBoolS_loop (l : List (Bool)) (hl : l.length ≤ 1048576) (d : Nat) : ∀ (y : List (Bool)) (i : Int), 0 ≤ i → i ≤ l.length → (l.length : Int) - i = d → y.length = l.length → y.take i.toNat = l.take i.toNat → Ev (fun k => laws_toBoolS.l0 k l y i) l := by
  induction d with
  | zero =>
    intro y i h0 h1 hd hy ht
    have e : y = l := take_all hy (by rw [show l.length = i.toNat by omega]; exact ht)
    subst e
    exact Ev.last (fun k => by simp only [laws_toBoolS.l0]; rw [if_neg (by omega)])
  | succ d ih =>
    intro y i h0 h1 hd hy ht
    have hw : wrap64 (i + 1) = i + 1 := w64 (by omega) (by omega)
    have hs := set_take l y false i.toNat (by omega) hy ht
    refine Ev.step (fun k => ?_) (ih (y.set i.toNat (l.getD i.toNat false)) (i + 1) (by omega) (by omega) (by omega) (by rw [List.length_set]; exact hy) (by rw [toNat_succ h0]; exact hs))
    simp only [laws_toBoolS.l0]
    rw [if_pos (by omega), if_pos h0, if_pos (by omega), hw]
    rfl
theorem laws_toBoolS_ev (l : List (Bool)) (hl : l.length ≤ 1048576) : Ev (fun k => laws_toBoolS.f k l) l := by
  have h := laws_toBoolS_loop l hl l.length (List.replicate l.length false) 0 (by omega) (by omega) (by omega) (by simp) (by simp)
  refine Ev.congr (fun k => ?_) h
  unfold laws_toBoolS.f
  rw [if_pos (by omega), if_pos (by omega)]
  rfl

theorem toBits_ev (a b : List Bool) (ha : a.length ≤ 1048576) (hb : b.length ≤ 1048576) : Ev (fun k => laws_toBits.f k a b) (a, b) := by
  unfold laws_toBits.f
  exact Ev.bind (laws_toBoolS_ev a ha) (Ev.bind (laws_toBoolS_ev b hb) (Ev.now _))

theorem laws_eqBoolS_loop (l : List (Bool)) (hl : l.length ≤ 1048576) (d : Nat) : ∀ (i : Int), 0 ≤ i → i ≤ l.length → (l.length : Int) - i = d → Ev (fun k => laws_eqBoolS.l0 k l l i) true := by
  induction d with
  | zero =>
    intro i h0 h1 hd
    exact Ev.last (fun k => by simp only [laws_eqBoolS.l0]; rw [if_neg (by omega)])
  | succ d ih =>
    intro i h0 h1 hd
    have hw : wrap64 (i + 1) = i + 1 := w64 (by omega) (by omega)
    refine Ev.step (fun k => ?_) (ih (i + 1) (by omega) (by omega) (by omega))
    simp only [laws_eqBoolS.l0]
    rw [if_pos (by omega), if_pos h0, if_pos (by omega), hw]
    simp
theorem laws_eqBoolS_refl (l : List (Bool)) (hl : l.length ≤ 1048576) : Ev (fun k => laws_eqBoolS.f k l l) true := by
  refine Ev.congr (fun k => ?_) (laws_eqBoolS_loop l hl l.length 0 (by omega) (by omega) (by omega))
  unfold laws_eqBoolS.f
  rw [if_pos rfl]

theorem eqBits_ev (a b : List Bool) (ha : a.length ≤ 1048576) (hb : b.length ≤ 1048576) : Ev (fun k => laws_eqBits.f k a b a b) true := by
  unfold laws_eqBits.f
  exact Ev.bind (laws_eqBoolS_refl a ha) (Ev.bind (laws_eqBoolS_refl b hb) (Ev.now _))

theorem laws_szIntS_eq (l : List (Int)) (a : Int) (hl : l.length ≤ 140737488355328) (h0 : 0 ≤ a) (h1 : a ≤ 1048576) : laws_szIntS.f l a = some (if a - l.length < 0 then -1 else a - l.length) := by
  unfold laws_szIntS.f
  rw [w64 (by omega) (by omega)]
  split <;> rfl

theorem szInode_eq (x y : Int) (l : List Int) (a : Int) (hl : l.length ≤ 140737488355328) (h0 : 0 ≤ a) (h1 : a ≤ 1048576) : laws_szInode.f x y l a = some (if a - l.length < 0 then -1 else a - l.length) := by
  unfold laws_szInode.f
  rw [laws_szIntS_eq l a hl h0 h1]
  simp only [Option.bind_some]
  by_cases h : a - (l.length : Int) < 0
  · simp [h]
  · simp [h]

theorem laws_toIntS_loop (l : List (Int)) (hl : l.length ≤ 1048576) (d : Nat) : ∀ (y : List (Int)) (i : Int), 0 ≤ i → i ≤ l.length → (l.length : Int) - i = d → y.length = l.length → y.take i.toNat = l.take i.toNat → Ev (fun k => laws_toIntS.l0 k l y i) l := by
  induction d with
  | zero =>
    intro y i h0 h1 hd hy ht
    have e : y = l := take_all hy (by rw [show l.length = i.toNat by omega]; exact ht)
    subst e
    exact Ev.last (fun k => by simp only [laws_toIntS.l0]; rw [if_neg (by omega)])
  | succ d ih =>
    intro y i h0 h1 hd hy ht
    have hw : wrap64 (i + 1) = i + 1 := w64 (by omega) (by omega)
    have hs := set_take l y 0 i.toNat (by omega) hy ht
    refine Ev.step (fun k => ?_) (ih (y.set i.toNat (l.getD i.toNat 0)) (i + 1) (by omega) (by omega) (by omega) (by rw [List.length_set]; exact hy) (by rw [toNat_succ h0]; exact hs))
    simp only [laws_toIntS.l0]
    rw [if_pos (by omega), if_pos h0, if_pos (by omega), hw]
    rfl
theorem laws_toIntS_ev (l : List (Int)) (hl : l.length ≤ 1048576) : Ev (fun k => laws_toIntS.f k l) l := by
  have h := laws_toIntS_loop l hl l.length (List.replicate l.length 0) 0 (by omega) (by omega) (by omega) (by simp) (by simp)
  refine Ev.congr (fun k => ?_) h
  unfold laws_toIntS.f
  rw [if_pos (by omega), if_pos (by omega)]
  rfl

theorem toInode_ev (a b : Int) (l : List Int) (hl : l.length ≤ 1048576) : Ev (fun k => laws_toInode.f k a b l) (a, b, l) := by
  unfold laws_toInode.f
  exact Ev.bind (laws_toIntS_ev l hl) (Ev.now _)

theorem laws_eqIntS_loop (l : List (Int)) (hl : l.length ≤ 1048576) (d : Nat) : ∀ (i : Int), 0 ≤ i → i ≤ l.length → (l.length : Int) - i = d → Ev (fun k => laws_eqIntS.l0 k l l i) true := by
  induction d with
  | zero =>
    intro i h0 h1 hd
    exact Ev.last (fun k => by simp only [laws_eqIntS.l0]; rw [if_neg (by omega)])
  | succ d ih =>
    intro i h0 h1 hd
    have hw : wrap64 (i + 1) = i + 1 := w64 (by omega) (by omega)
    refine Ev.step (fun k => ?_) (ih (i + 1) (by omega) (by omega) (by omega))
    simp only [laws_eqIntS.l0]
    rw [if_pos (by omega), if_pos h0, if_pos (by omega), hw]
    simp
theorem laws_eqIntS_refl (l : List (Int)) (hl : l.length ≤ 1048576) : Ev (fun k => laws_eqIntS.f k l l) true := by
  refine Ev.congr (fun k => ?_) (laws_eqIntS_loop l hl l.length 0 (by omega) (by omega) (by omega))
  unfold laws_eqIntS.f
  rw [if_pos rfl]

theorem eqInode_ev (a b : Int) (l : List Int) (hl : l.length ≤ 1048576) : Ev (fun k => laws_eqInode.f k a b l a b l) true := by
  unfold laws_eqInode.f
  simp only [if_true]
  exact Ev.bind (laws_eqIntS_refl l hl) (Ev.now _)


/-- The program's inode of a law's inode. -/
def cvI (x : S142) : S105 := ⟨x.f0, x.f1, x.f2⟩
def ILim (x : S142) : Prop := x.f2.length ≤ 1048576
def ILimT (x : S105) : Prop := x.f2.length ≤ 1048576
theorem szInode_ev (x : S142) (a : Int) (hg : good142 x) (a0 : 0 ≤ a) (a1 : a ≤ 1048576) : ∃ r, Ev (fun _ => laws_szInode.f x.f0 x.f1 x.f2 a) r ∧ r ≤ a ∧ (r < 0 → r = -1) ∧ (0 ≤ r → ILim x) := by
  obtain ⟨_, _, h, _⟩ := hg
  rw [szInode_eq x.f0 x.f1 x.f2 a (by omega) a0 a1]
  unfold ILim
  split
  · exact ⟨-1, Ev.now _, by omega, fun _ => rfl, fun h => by omega⟩
  · exact ⟨_, Ev.now _, by omega, fun h => by omega, fun _ => by omega⟩
theorem toInodeX_ev (x : S142) (h : ILim x) : Ev (fun k => laws_toInode.f k x.f0 x.f1 x.f2) (x.f0, x.f1, x.f2) := toInode_ev x.f0 x.f1 x.f2 h
theorem eqInodeX_ev (x : S105) (h : ILimT x) : Ev (fun k => laws_eqInode.f k x.f0 x.f1 x.f2 x.f0 x.f1 x.f2) true := eqInode_ev x.f0 x.f1 x.f2 h

theorem laws_szInodeS_loop (l : List S142) (hl : l.length ≤ 140737488355328) (hg : ∀ x ∈ l, good142 x) (d : Nat) : ∀ (a i : Int), 0 ≤ a → a ≤ 1048576 → 0 ≤ i → i ≤ l.length → (l.length : Int) - i = d → ∃ r, Ev (fun k => laws_szInodeS.l0 k l a i) r ∧ r ≤ a ∧ (r < 0 → r = -1) ∧ (0 ≤ r → ∀ j : Nat, i ≤ j → j < l.length → ILim (l.getD j z142)) := by
  induction d with
  | zero =>
    intro a i a0 a1 h0 h1 hd
    exact ⟨a, Ev.last (fun k => by simp only [laws_szInodeS.l0]; rw [if_neg (by omega)]), by omega, by omega, fun _ j j0 j1 => by omega⟩
  | succ d ih =>
    intro a i a0 a1 h0 h1 hd
    have hw : wrap64 (i + 1) = i + 1 := w64 (by omega) (by omega)
    obtain ⟨t, ht, t1, t2, t3⟩ := szInode_ev (l.getD i.toNat z142) a (hg _ (getD_mem (xs := l) (i := i.toNat) z142 (by omega))) a0 a1
    have key : ∀ k, laws_szInodeS.l0 (k + 1) l a i = ((fun (k : Nat) (x : S142) (a : Int) => laws_szInode.f x.f0 x.f1 x.f2 a) k (l.getD i.toNat z142) a).bind (fun t => if t < 0 then some (-1) else laws_szInodeS.l0 k l t (i + 1)) := fun k => by
      simp only [laws_szInodeS.l0]
      rw [if_pos (by omega), if_pos h0, hw]
      rfl
    by_cases hneg : t < 0
    · exact ⟨-1, Ev.step key (Ev.bind ht (Ev.now' fun _ => by rw [if_pos hneg])), by omega, fun _ => rfl, fun h => by omega⟩
    · obtain ⟨r, hr, h2, h3, h4⟩ := ih t (i + 1) (by omega) (by omega) (by omega) (by omega) (by omega)
      refine ⟨r, Ev.step key (Ev.bind ht (Ev.congr (fun k => by rw [if_neg hneg]) hr)), by omega, h3, fun hr0 j j0 j1 => ?_⟩
      by_cases ej : j = i.toNat
      · subst ej
        exact t3 (by omega)
      · exact h4 hr0 j (by omega) j1
theorem laws_szInodeS_ev (l : List S142) (a : Int) (hl : l.length ≤ 140737488355328) (hg : ∀ x ∈ l, good142 x) (a0 : 0 ≤ a) (a1 : a ≤ 1048576) : ∃ r, Ev (fun k => laws_szInodeS.f k l a) r ∧ r ≤ a ∧ (r < 0 → r = -1) ∧ (0 ≤ r → l.length ≤ 1048576 ∧ ∀ s ∈ l, ILim s) := by
  have hw : wrap64 (a - (l.length : Int)) = a - l.length := w64 (by omega) (by omega)
  by_cases hneg : a - (l.length : Int) < 0
  · exact ⟨-1, Ev.now' fun k => by unfold laws_szInodeS.f; rw [hw, if_pos hneg], by omega, fun _ => rfl, fun h => by omega⟩
  · obtain ⟨r, hr, h2, h3, h4⟩ := laws_szInodeS_loop l hl hg l.length (a - l.length) 0 (by omega) (by omega) (by omega) (by omega) (by omega)
    refine ⟨r, Ev.congr (fun k => ?_) hr, by omega, h3, fun hr0 => ⟨by omega, fun s hs => ?_⟩⟩
    · unfold laws_szInodeS.f
      rw [hw, if_neg hneg]
    · obtain ⟨j, hj, e⟩ := List.mem_iff_getElem.1 hs
      have := h4 hr0 j (by omega) hj
      rw [List.getD_eq_getElem?_getD, List.getElem?_eq_getElem hj] at this
      rw [← e]
      exact this

theorem laws_toInodeS_loop (l : List S142) (hl : l.length ≤ 1048576) (hg : ∀ x ∈ l, ILim x) (d : Nat) : ∀ (y : List S105) (i : Int), 0 ≤ i → i ≤ l.length → (l.length : Int) - i = d → y.length = l.length → y.take i.toNat = (l.map cvI).take i.toNat → Ev (fun k => laws_toInodeS.l0 k l y i) (l.map cvI) := by
  induction d with
  | zero =>
    intro y i h0 h1 hd hy ht
    have e : y = l.map cvI := take_all (by simpa using hy) (by rw [List.length_map, show l.length = i.toNat by omega]; exact ht)
    subst e
    exact Ev.last (fun k => by simp only [laws_toInodeS.l0]; rw [if_neg (by omega)])
  | succ d ih =>
    intro y i h0 h1 hd hy ht
    have hw : wrap64 (i + 1) = i + 1 := w64 (by omega) (by omega)
    have hx := toInodeX_ev (l.getD i.toNat z142) (hg _ (getD_mem (xs := l) (i := i.toNat) z142 (by omega)))
    have hs := set_take (l.map cvI) y (cvI z142) i.toNat (by rw [List.length_map]; omega) (by simpa using hy) ht
    have hm : (l.map cvI).getD i.toNat (cvI z142) = cvI (l.getD i.toNat z142) := by simp [List.getD_eq_getElem?_getD, List.getElem?_map, List.getElem?_eq_getElem (show i.toNat < l.length by omega)]
    rw [hm] at hs
    have h2 : i < (l.length : Int) := by omega
    have h3 : i < (y.length : Int) := by omega
    have key : ∀ k, laws_toInodeS.l0 (k + 1) l y i = ((fun (k : Nat) (x : S142) => laws_toInode.f k x.f0 x.f1 x.f2) k (l.getD i.toNat z142)).bind (fun t => laws_toInodeS.l0 k l (y.set i.toNat ((fun t => (⟨t.1, t.2.1, t.2.2⟩ : S105)) t)) (i + 1)) := fun k => by
      simp only [laws_toInodeS.l0, if_pos h2, if_pos h0, if_pos h3, hw]
      rfl
    exact Ev.step key (Ev.bind hx (ih (y.set i.toNat (cvI (l.getD i.toNat z142))) (i + 1) (by omega) (by omega) (by omega) (by rw [List.length_set]; exact hy) (by rw [toNat_succ h0]; exact hs)))
theorem laws_toInodeS_ev (l : List S142) (hl : l.length ≤ 1048576) (hg : ∀ x ∈ l, ILim x) : Ev (fun k => laws_toInodeS.f k l) (l.map cvI) := by
  have h := laws_toInodeS_loop l hl hg l.length (List.replicate l.length z105) 0 (by omega) (by omega) (by omega) (by simp) (by simp)
  refine Ev.congr (fun k => ?_) h
  unfold laws_toInodeS.f
  rw [if_pos (by omega), if_pos (by omega)]
  rfl

theorem laws_eqInodeS_loop (l : List S105) (hl : l.length ≤ 1048576) (hg : ∀ x ∈ l, ILimT x) (d : Nat) : ∀ (i : Int), 0 ≤ i → i ≤ l.length → (l.length : Int) - i = d → Ev (fun k => laws_eqInodeS.l0 k l l i) true := by
  induction d with
  | zero =>
    intro i h0 h1 hd
    exact Ev.last (fun k => by simp only [laws_eqInodeS.l0]; rw [if_neg (by omega)])
  | succ d ih =>
    intro i h0 h1 hd
    have hw : wrap64 (i + 1) = i + 1 := w64 (by omega) (by omega)
    have h2 : i < (l.length : Int) := by omega
    have hx := eqInodeX_ev (l.getD i.toNat z105) (hg _ (getD_mem (xs := l) (i := i.toNat) z105 (by omega)))
    have key : ∀ k, laws_eqInodeS.l0 (k + 1) l l i = ((fun (k : Nat) (x : S105) => laws_eqInode.f k x.f0 x.f1 x.f2 x.f0 x.f1 x.f2) k (l.getD i.toNat z105)).bind (fun t => if t = true then laws_eqInodeS.l0 k l l (i + 1) else some false) := fun k => by
      simp only [laws_eqInodeS.l0, if_pos h2, if_pos h0, hw]
      rfl
    exact Ev.step key (Ev.bind hx (Ev.congr (fun k => by rw [if_pos rfl]) (ih (i + 1) (by omega) (by omega) (by omega))))
theorem laws_eqInodeS_refl (l : List S105) (hl : l.length ≤ 1048576) (hg : ∀ x ∈ l, ILimT x) : Ev (fun k => laws_eqInodeS.f k l l) true := by
  refine Ev.congr (fun k => ?_) (laws_eqInodeS_loop l hl hg l.length 0 (by omega) (by omega) (by omega))
  unfold laws_eqInodeS.f
  rw [if_pos rfl]


/-- The program's slot of a law's slot. -/
def cvS (x : S151) : S69 := ⟨x.f0, x.f1⟩
def SLim (x : S151) : Prop := x.f0.size ≤ 1048576
theorem szSlot_ev (x : S151) (a : Int) (hg : good151 x) (a0 : 0 ≤ a) (a1 : a ≤ 1048576) : ∃ r, Ev (fun _ => laws_szSlot.f x.f0 x.f1 a) r ∧ r ≤ a ∧ (r < 0 → r = -1) ∧ (0 ≤ r → SLim x) := by
  have hs := hg.1
  have hw : wrap64 (a - (x.f0.size : Int)) = a - x.f0.size := w64 (by omega) (by omega)
  unfold laws_szSlot.f SLim
  rw [hw]
  by_cases h : a - (x.f0.size : Int) < 0
  · exact ⟨-1, Ev.now' fun _ => by rw [if_pos h], by omega, fun _ => rfl, fun h => by omega⟩
  · exact ⟨a - x.f0.size, Ev.now' fun _ => by rw [if_neg h], by omega, by omega, fun _ => by omega⟩
theorem toSlot_ev (x : S151) (_ : True) : Ev (fun _ => laws_toSlot.f x.f0 x.f1) (x.f0, x.f1) := Ev.now _

theorem laws_szSlotS_loop (l : List S151) (hl : l.length ≤ 140737488355328) (hg : ∀ x ∈ l, good151 x) (d : Nat) : ∀ (a i : Int), 0 ≤ a → a ≤ 1048576 → 0 ≤ i → i ≤ l.length → (l.length : Int) - i = d → ∃ r, Ev (fun k => laws_szSlotS.l0 k l a i) r ∧ r ≤ a ∧ (r < 0 → r = -1) ∧ (0 ≤ r → ∀ j : Nat, i ≤ j → j < l.length → SLim (l.getD j z151)) := by
  induction d with
  | zero =>
    intro a i a0 a1 h0 h1 hd
    exact ⟨a, Ev.last (fun k => by simp only [laws_szSlotS.l0]; rw [if_neg (by omega)]), by omega, by omega, fun _ j j0 j1 => by omega⟩
  | succ d ih =>
    intro a i a0 a1 h0 h1 hd
    have hw : wrap64 (i + 1) = i + 1 := w64 (by omega) (by omega)
    obtain ⟨t, ht, t1, t2, t3⟩ := szSlot_ev (l.getD i.toNat z151) a (hg _ (getD_mem (xs := l) (i := i.toNat) z151 (by omega))) a0 a1
    have key : ∀ k, laws_szSlotS.l0 (k + 1) l a i = ((fun (k : Nat) (x : S151) (a : Int) => laws_szSlot.f x.f0 x.f1 a) k (l.getD i.toNat z151) a).bind (fun t => if t < 0 then some (-1) else laws_szSlotS.l0 k l t (i + 1)) := fun k => by
      simp only [laws_szSlotS.l0]
      rw [if_pos (by omega), if_pos h0, hw]
      rfl
    by_cases hneg : t < 0
    · exact ⟨-1, Ev.step key (Ev.bind ht (Ev.now' fun _ => by rw [if_pos hneg])), by omega, fun _ => rfl, fun h => by omega⟩
    · obtain ⟨r, hr, h2, h3, h4⟩ := ih t (i + 1) (by omega) (by omega) (by omega) (by omega) (by omega)
      refine ⟨r, Ev.step key (Ev.bind ht (Ev.congr (fun k => by rw [if_neg hneg]) hr)), by omega, h3, fun hr0 j j0 j1 => ?_⟩
      by_cases ej : j = i.toNat
      · subst ej
        exact t3 (by omega)
      · exact h4 hr0 j (by omega) j1
theorem laws_szSlotS_ev (l : List S151) (a : Int) (hl : l.length ≤ 140737488355328) (hg : ∀ x ∈ l, good151 x) (a0 : 0 ≤ a) (a1 : a ≤ 1048576) : ∃ r, Ev (fun k => laws_szSlotS.f k l a) r ∧ r ≤ a ∧ (r < 0 → r = -1) ∧ (0 ≤ r → l.length ≤ 1048576 ∧ ∀ s ∈ l, SLim s) := by
  have hw : wrap64 (a - (l.length : Int)) = a - l.length := w64 (by omega) (by omega)
  by_cases hneg : a - (l.length : Int) < 0
  · exact ⟨-1, Ev.now' fun k => by unfold laws_szSlotS.f; rw [hw, if_pos hneg], by omega, fun _ => rfl, fun h => by omega⟩
  · obtain ⟨r, hr, h2, h3, h4⟩ := laws_szSlotS_loop l hl hg l.length (a - l.length) 0 (by omega) (by omega) (by omega) (by omega) (by omega)
    refine ⟨r, Ev.congr (fun k => ?_) hr, by omega, h3, fun hr0 => ⟨by omega, fun s hs => ?_⟩⟩
    · unfold laws_szSlotS.f
      rw [hw, if_neg hneg]
    · obtain ⟨j, hj, e⟩ := List.mem_iff_getElem.1 hs
      have := h4 hr0 j (by omega) hj
      rw [List.getD_eq_getElem?_getD, List.getElem?_eq_getElem hj] at this
      rw [← e]
      exact this

theorem laws_toSlotS_loop (l : List S151) (hl : l.length ≤ 1048576) (hg : ∀ x ∈ l, (fun _ => True) x) (d : Nat) : ∀ (y : List S69) (i : Int), 0 ≤ i → i ≤ l.length → (l.length : Int) - i = d → y.length = l.length → y.take i.toNat = (l.map cvS).take i.toNat → Ev (fun k => laws_toSlotS.l0 k l y i) (l.map cvS) := by
  induction d with
  | zero =>
    intro y i h0 h1 hd hy ht
    have e : y = l.map cvS := take_all (by simpa using hy) (by rw [List.length_map, show l.length = i.toNat by omega]; exact ht)
    subst e
    exact Ev.last (fun k => by simp only [laws_toSlotS.l0]; rw [if_neg (by omega)])
  | succ d ih =>
    intro y i h0 h1 hd hy ht
    have hw : wrap64 (i + 1) = i + 1 := w64 (by omega) (by omega)
    have hx := toSlot_ev (l.getD i.toNat z151) (hg _ (getD_mem (xs := l) (i := i.toNat) z151 (by omega)))
    have hs := set_take (l.map cvS) y (cvS z151) i.toNat (by rw [List.length_map]; omega) (by simpa using hy) ht
    have hm : (l.map cvS).getD i.toNat (cvS z151) = cvS (l.getD i.toNat z151) := by simp [List.getD_eq_getElem?_getD, List.getElem?_map, List.getElem?_eq_getElem (show i.toNat < l.length by omega)]
    rw [hm] at hs
    have h2 : i < (l.length : Int) := by omega
    have h3 : i < (y.length : Int) := by omega
    have key : ∀ k, laws_toSlotS.l0 (k + 1) l y i = ((fun (k : Nat) (x : S151) => laws_toSlot.f x.f0 x.f1) k (l.getD i.toNat z151)).bind (fun t => laws_toSlotS.l0 k l (y.set i.toNat ((fun t => (⟨t.1, t.2⟩ : S69)) t)) (i + 1)) := fun k => by
      simp only [laws_toSlotS.l0, if_pos h2, if_pos h0, if_pos h3, hw]
      rfl
    exact Ev.step key (Ev.bind hx (ih (y.set i.toNat (cvS (l.getD i.toNat z151))) (i + 1) (by omega) (by omega) (by omega) (by rw [List.length_set]; exact hy) (by rw [toNat_succ h0]; exact hs)))
theorem laws_toSlotS_ev (l : List S151) (hl : l.length ≤ 1048576) (hg : ∀ x ∈ l, (fun _ => True) x) : Ev (fun k => laws_toSlotS.f k l) (l.map cvS) := by
  have h := laws_toSlotS_loop l hl hg l.length (List.replicate l.length z69) 0 (by omega) (by omega) (by omega) (by simp) (by simp)
  refine Ev.congr (fun k => ?_) h
  unfold laws_toSlotS.f
  rw [if_pos (by omega), if_pos (by omega)]
  rfl


theorem eqSlot_ev (x : S69) (_ : True) : Ev (fun _ => laws_eqSlot.f x.f0 x.f1 x.f0 x.f1) true := Ev.now' fun _ => by
  unfold laws_eqSlot.f
  rw [if_pos rfl, if_pos rfl]

theorem laws_eqSlotS_loop (l : List S69) (hl : l.length ≤ 1048576) (hg : ∀ x ∈ l, (fun _ => True) x) (d : Nat) : ∀ (i : Int), 0 ≤ i → i ≤ l.length → (l.length : Int) - i = d → Ev (fun k => laws_eqSlotS.l0 k l l i) true := by
  induction d with
  | zero =>
    intro i h0 h1 hd
    exact Ev.last (fun k => by simp only [laws_eqSlotS.l0]; rw [if_neg (by omega)])
  | succ d ih =>
    intro i h0 h1 hd
    have hw : wrap64 (i + 1) = i + 1 := w64 (by omega) (by omega)
    have h2 : i < (l.length : Int) := by omega
    have hx := eqSlot_ev (l.getD i.toNat z69) (hg _ (getD_mem (xs := l) (i := i.toNat) z69 (by omega)))
    have key : ∀ k, laws_eqSlotS.l0 (k + 1) l l i = ((fun (k : Nat) (x : S69) => laws_eqSlot.f x.f0 x.f1 x.f0 x.f1) k (l.getD i.toNat z69)).bind (fun t => if t = true then laws_eqSlotS.l0 k l l (i + 1) else some false) := fun k => by
      simp only [laws_eqSlotS.l0, if_pos h2, if_pos h0, hw]
      rfl
    exact Ev.step key (Ev.bind hx (Ev.congr (fun k => by rw [if_pos rfl]) (ih (i + 1) (by omega) (by omega) (by omega))))
theorem laws_eqSlotS_refl (l : List S69) (hl : l.length ≤ 1048576) (hg : ∀ x ∈ l, (fun _ => True) x) : Ev (fun k => laws_eqSlotS.f k l l) true := by
  refine Ev.congr (fun k => ?_) (laws_eqSlotS_loop l hl hg l.length 0 (by omega) (by omega) (by omega))
  unfold laws_eqSlotS.f
  rw [if_pos rfl]


theorem eqBlock_ev (b : Bool) (l : List S69) (t : ByteArray) (hl : l.length ≤ 1048576) : Ev (fun k => laws_eqBlock.f k b l t b l t) true := by
  unfold laws_eqBlock.f
  simp only [bne_self_eq_false, Bool.false_eq_true, if_false]
  exact Ev.bind (laws_eqSlotS_refl l hl (fun _ _ => trivial)) (Ev.now' fun _ => by simp)

theorem szBlock_ev (b : Bool) (l : List S151) (t : ByteArray) (a : Int) (hg : good54 ⟨b, l, t⟩) (a0 : 0 ≤ a) (a1 : a ≤ 1048576) : ∃ r, Ev (fun k => laws_szBlock.f k b l t a) r ∧ r ≤ a ∧ (r < 0 → r = -1) ∧ (0 ≤ r → l.length ≤ 1048576 ∧ (∀ x ∈ l, SLim x) ∧ t.size ≤ 1048576) := by
  obtain ⟨_, ⟨h1, h2⟩, h3⟩ := hg
  simp only at h1 h2 h3
  obtain ⟨r, hr, r1, r2, r3⟩ := laws_szSlotS_ev l a (by omega) h2 a0 a1
  unfold laws_szBlock.f
  by_cases hneg : r < 0
  · exact ⟨-1, Ev.bind hr (Ev.now' fun _ => by rw [if_pos hneg]), by omega, fun _ => rfl, fun h => by omega⟩
  · have hw : wrap64 (r - (t.size : Int)) = r - t.size := w64 (by omega) (by omega)
    by_cases h : r - (t.size : Int) < 0
    · exact ⟨-1, Ev.bind hr (Ev.now' fun _ => by rw [if_neg hneg, hw, if_pos h]), by omega, fun _ => rfl, fun h => by omega⟩
    · exact ⟨r - t.size, Ev.bind hr (Ev.now' fun _ => by rw [if_neg hneg, hw, if_neg h]), by omega, by omega, fun _ => ⟨(r3 (by omega)).1, (r3 (by omega)).2, by omega⟩⟩
theorem toBlock_ev (b : Bool) (l : List S151) (t : ByteArray) (hl : l.length ≤ 1048576) : Ev (fun k => laws_toBlock.f k b l t) (b, l.map cvS, t) := by
  unfold laws_toBlock.f
  exact Ev.bind (laws_toSlotS_ev l hl (fun _ _ => trivial)) (Ev.now _)

/-- The program's block of a law's block. -/
def cvB (x : S54) : S59 := ⟨x.f0, x.f1.map cvS, x.f2⟩
def BLim (x : S54) : Prop := x.f1.length ≤ 1048576 ∧ (∀ y ∈ x.f1, SLim y) ∧ x.f2.size ≤ 1048576
def BLimT (x : S59) : Prop := x.f1.length ≤ 1048576 ∧ (∀ y ∈ x.f1, y.f0.size ≤ 1048576) ∧ x.f2.size ≤ 1048576
theorem szBlockX_ev (x : S54) (a : Int) (hg : good54 x) (a0 : 0 ≤ a) (a1 : a ≤ 1048576) : ∃ r, Ev (fun k => laws_szBlock.f k x.f0 x.f1 x.f2 a) r ∧ r ≤ a ∧ (r < 0 → r = -1) ∧ (0 ≤ r → BLim x) := szBlock_ev x.f0 x.f1 x.f2 a hg a0 a1
theorem toBlockX_ev (x : S54) (h : BLim x) : Ev (fun k => laws_toBlock.f k x.f0 x.f1 x.f2) (x.f0, x.f1.map cvS, x.f2) := toBlock_ev x.f0 x.f1 x.f2 h.1
theorem eqBlockX_ev (x : S59) (h : BLimT x) : Ev (fun k => laws_eqBlock.f k x.f0 x.f1 x.f2 x.f0 x.f1 x.f2) true := eqBlock_ev x.f0 x.f1 x.f2 h.1
theorem BLim_cv (x : S54) (h : BLim x) : BLimT (cvB x) := ⟨by simpa [cvB] using h.1, fun y hy => by
  obtain ⟨z, hz, rfl⟩ := List.mem_map.1 hy
  exact h.2.1 z hz, h.2.2⟩

theorem laws_szBlockS_loop (l : List S54) (hl : l.length ≤ 140737488355328) (hg : ∀ x ∈ l, good54 x) (d : Nat) : ∀ (a i : Int), 0 ≤ a → a ≤ 1048576 → 0 ≤ i → i ≤ l.length → (l.length : Int) - i = d → ∃ r, Ev (fun k => laws_szBlockS.l0 k l a i) r ∧ r ≤ a ∧ (r < 0 → r = -1) ∧ (0 ≤ r → ∀ j : Nat, i ≤ j → j < l.length → BLim (l.getD j z54)) := by
  induction d with
  | zero =>
    intro a i a0 a1 h0 h1 hd
    exact ⟨a, Ev.last (fun k => by simp only [laws_szBlockS.l0]; rw [if_neg (by omega)]), by omega, by omega, fun _ j j0 j1 => by omega⟩
  | succ d ih =>
    intro a i a0 a1 h0 h1 hd
    have hw : wrap64 (i + 1) = i + 1 := w64 (by omega) (by omega)
    obtain ⟨t, ht, t1, t2, t3⟩ := szBlockX_ev (l.getD i.toNat z54) a (hg _ (getD_mem (xs := l) (i := i.toNat) z54 (by omega))) a0 a1
    have key : ∀ k, laws_szBlockS.l0 (k + 1) l a i = ((fun (k : Nat) (x : S54) (a : Int) => laws_szBlock.f k x.f0 x.f1 x.f2 a) k (l.getD i.toNat z54) a).bind (fun t => if t < 0 then some (-1) else laws_szBlockS.l0 k l t (i + 1)) := fun k => by
      simp only [laws_szBlockS.l0]
      rw [if_pos (by omega), if_pos h0, hw]
      rfl
    by_cases hneg : t < 0
    · exact ⟨-1, Ev.step key (Ev.bind ht (Ev.now' fun _ => by rw [if_pos hneg])), by omega, fun _ => rfl, fun h => by omega⟩
    · obtain ⟨r, hr, h2, h3, h4⟩ := ih t (i + 1) (by omega) (by omega) (by omega) (by omega) (by omega)
      refine ⟨r, Ev.step key (Ev.bind ht (Ev.congr (fun k => by rw [if_neg hneg]) hr)), by omega, h3, fun hr0 j j0 j1 => ?_⟩
      by_cases ej : j = i.toNat
      · subst ej
        exact t3 (by omega)
      · exact h4 hr0 j (by omega) j1
theorem laws_szBlockS_ev (l : List S54) (a : Int) (hl : l.length ≤ 140737488355328) (hg : ∀ x ∈ l, good54 x) (a0 : 0 ≤ a) (a1 : a ≤ 1048576) : ∃ r, Ev (fun k => laws_szBlockS.f k l a) r ∧ r ≤ a ∧ (r < 0 → r = -1) ∧ (0 ≤ r → l.length ≤ 1048576 ∧ ∀ s ∈ l, BLim s) := by
  have hw : wrap64 (a - (l.length : Int)) = a - l.length := w64 (by omega) (by omega)
  by_cases hneg : a - (l.length : Int) < 0
  · exact ⟨-1, Ev.now' fun k => by unfold laws_szBlockS.f; rw [hw, if_pos hneg], by omega, fun _ => rfl, fun h => by omega⟩
  · obtain ⟨r, hr, h2, h3, h4⟩ := laws_szBlockS_loop l hl hg l.length (a - l.length) 0 (by omega) (by omega) (by omega) (by omega) (by omega)
    refine ⟨r, Ev.congr (fun k => ?_) hr, by omega, h3, fun hr0 => ⟨by omega, fun s hs => ?_⟩⟩
    · unfold laws_szBlockS.f
      rw [hw, if_neg hneg]
    · obtain ⟨j, hj, e⟩ := List.mem_iff_getElem.1 hs
      have := h4 hr0 j (by omega) hj
      rw [List.getD_eq_getElem?_getD, List.getElem?_eq_getElem hj] at this
      rw [← e]
      exact this

theorem laws_toBlockS_loop (l : List S54) (hl : l.length ≤ 1048576) (hg : ∀ x ∈ l, BLim x) (d : Nat) : ∀ (y : List S59) (i : Int), 0 ≤ i → i ≤ l.length → (l.length : Int) - i = d → y.length = l.length → y.take i.toNat = (l.map cvB).take i.toNat → Ev (fun k => laws_toBlockS.l0 k l y i) (l.map cvB) := by
  induction d with
  | zero =>
    intro y i h0 h1 hd hy ht
    have e : y = l.map cvB := take_all (by simpa using hy) (by rw [List.length_map, show l.length = i.toNat by omega]; exact ht)
    subst e
    exact Ev.last (fun k => by simp only [laws_toBlockS.l0]; rw [if_neg (by omega)])
  | succ d ih =>
    intro y i h0 h1 hd hy ht
    have hw : wrap64 (i + 1) = i + 1 := w64 (by omega) (by omega)
    have hx := toBlockX_ev (l.getD i.toNat z54) (hg _ (getD_mem (xs := l) (i := i.toNat) z54 (by omega)))
    have hs := set_take (l.map cvB) y (cvB z54) i.toNat (by rw [List.length_map]; omega) (by simpa using hy) ht
    have hm : (l.map cvB).getD i.toNat (cvB z54) = cvB (l.getD i.toNat z54) := by simp [List.getD_eq_getElem?_getD, List.getElem?_map, List.getElem?_eq_getElem (show i.toNat < l.length by omega)]
    rw [hm] at hs
    have h2 : i < (l.length : Int) := by omega
    have h3 : i < (y.length : Int) := by omega
    have key : ∀ k, laws_toBlockS.l0 (k + 1) l y i = ((fun (k : Nat) (x : S54) => laws_toBlock.f k x.f0 x.f1 x.f2) k (l.getD i.toNat z54)).bind (fun t => laws_toBlockS.l0 k l (y.set i.toNat ((fun t => (⟨t.1, t.2.1, t.2.2⟩ : S59)) t)) (i + 1)) := fun k => by
      simp only [laws_toBlockS.l0, if_pos h2, if_pos h0, if_pos h3, hw]
      rfl
    exact Ev.step key (Ev.bind hx (ih (y.set i.toNat (cvB (l.getD i.toNat z54))) (i + 1) (by omega) (by omega) (by omega) (by rw [List.length_set]; exact hy) (by rw [toNat_succ h0]; exact hs)))
theorem laws_toBlockS_ev (l : List S54) (hl : l.length ≤ 1048576) (hg : ∀ x ∈ l, BLim x) : Ev (fun k => laws_toBlockS.f k l) (l.map cvB) := by
  have h := laws_toBlockS_loop l hl hg l.length (List.replicate l.length z59) 0 (by omega) (by omega) (by omega) (by simp) (by simp)
  refine Ev.congr (fun k => ?_) h
  unfold laws_toBlockS.f
  rw [if_pos (by omega), if_pos (by omega)]
  rfl

theorem laws_eqBlockS_loop (l : List S59) (hl : l.length ≤ 1048576) (hg : ∀ x ∈ l, BLimT x) (d : Nat) : ∀ (i : Int), 0 ≤ i → i ≤ l.length → (l.length : Int) - i = d → Ev (fun k => laws_eqBlockS.l0 k l l i) true := by
  induction d with
  | zero =>
    intro i h0 h1 hd
    exact Ev.last (fun k => by simp only [laws_eqBlockS.l0]; rw [if_neg (by omega)])
  | succ d ih =>
    intro i h0 h1 hd
    have hw : wrap64 (i + 1) = i + 1 := w64 (by omega) (by omega)
    have h2 : i < (l.length : Int) := by omega
    have hx := eqBlockX_ev (l.getD i.toNat z59) (hg _ (getD_mem (xs := l) (i := i.toNat) z59 (by omega)))
    have key : ∀ k, laws_eqBlockS.l0 (k + 1) l l i = ((fun (k : Nat) (x : S59) => laws_eqBlock.f k x.f0 x.f1 x.f2 x.f0 x.f1 x.f2) k (l.getD i.toNat z59)).bind (fun t => if t = true then laws_eqBlockS.l0 k l l (i + 1) else some false) := fun k => by
      simp only [laws_eqBlockS.l0, if_pos h2, if_pos h0, hw]
      rfl
    exact Ev.step key (Ev.bind hx (Ev.congr (fun k => by rw [if_pos rfl]) (ih (i + 1) (by omega) (by omega) (by omega))))
theorem laws_eqBlockS_refl (l : List S59) (hl : l.length ≤ 1048576) (hg : ∀ x ∈ l, BLimT x) : Ev (fun k => laws_eqBlockS.f k l l) true := by
  refine Ev.congr (fun k => ?_) (laws_eqBlockS_loop l hl hg l.length 0 (by omega) (by omega) (by omega))
  unfold laws_eqBlockS.f
  rw [if_pos rfl]


/-- What is known of a law's disk whose size was told. -/
def DLim (a b : List Bool) (I : List S142) (B : List S54) : Prop := (a.length ≤ 1048576 ∧ b.length ≤ 1048576) ∧ (I.length ≤ 1048576 ∧ ∀ x ∈ I, ILim x) ∧ (B.length ≤ 1048576 ∧ ∀ x ∈ B, BLim x)
theorem szDisk_ev (a b : List Bool) (I : List S142) (B : List S54) (m : Int) (hg : good28 ⟨⟨a, b⟩, I, B⟩) (m0 : 0 ≤ m) (m1 : m ≤ 1048576) : ∃ r, Ev (fun k => laws_szDisk.f k a b I B m) r ∧ r ≤ m ∧ (0 ≤ r → DLim a b I B) := by
  obtain ⟨⟨⟨ha, _⟩, hb, _⟩, ⟨hI, hIg⟩, hB, hBg⟩ := hg
  simp only at ha hb hI hB hIg hBg
  unfold laws_szDisk.f
  obtain ⟨r, hr, r1, r2⟩ := szBits_eq a b m (by omega) (by omega) m0 m1
  simp only [hr, Option.bind_some]
  by_cases h : r < 0
  · exact ⟨-1, Ev.now' fun _ => by rw [if_pos h], by omega, fun h => by omega⟩
  · simp only [if_neg h]
    obtain ⟨q, hq, q1, q2, q3⟩ := laws_szInodeS_ev I r (by omega) hIg (by omega) (by omega)
    by_cases h2 : q < 0
    · exact ⟨-1, Ev.bind hq (Ev.now' fun _ => by rw [if_pos h2]), by omega, fun h => by omega⟩
    · obtain ⟨p, hp, p1, p2, p3⟩ := laws_szBlockS_ev B q (by omega) hBg (by omega) (by omega)
      by_cases h3 : p < 0
      · exact ⟨-1, Ev.bind hq (Ev.congr (fun k => by rw [if_neg h2]) (Ev.bind hp (Ev.now' fun _ => by rw [if_pos h3]))), by omega, fun h => by omega⟩
      · exact ⟨p, Ev.bind hq (Ev.congr (fun k => by rw [if_neg h2]) (Ev.bind hp (Ev.now' fun _ => by rw [if_neg h3]))), by omega, fun _ => ⟨r2 (by omega), q3 (by omega), p3 (by omega)⟩⟩
theorem toDisk_ev (a b : List Bool) (I : List S142) (B : List S54) (h : DLim a b I B) : Ev (fun k => laws_toDisk.f k a b I B) (a, b, I.map cvI, B.map cvB) := by
  obtain ⟨⟨ha, hb⟩, ⟨hI, hi⟩, hB, hb'⟩ := h
  unfold laws_toDisk.f
  exact Ev.bind (toBits_ev a b ha hb) (Ev.bind (laws_toInodeS_ev I hI hi) (Ev.bind (laws_toBlockS_ev B hB hb') (Ev.now _)))
/-- What is known of the program's disk. -/
def DLimT (a b : List Bool) (I : List S105) (B : List S59) : Prop := (a.length ≤ 1048576 ∧ b.length ≤ 1048576) ∧ (I.length ≤ 1048576 ∧ ∀ x ∈ I, ILimT x) ∧ (B.length ≤ 1048576 ∧ ∀ x ∈ B, BLimT x)
theorem DLim_cv {a b : List Bool} {I : List S142} {B : List S54} (h : DLim a b I B) : DLimT a b (I.map cvI) (B.map cvB) := by
  obtain ⟨hab, ⟨hI, hi⟩, hB, hb'⟩ := h
  refine ⟨hab, ⟨by simpa using hI, fun x hx => ?_⟩, by simpa using hB, fun x hx => ?_⟩
  · obtain ⟨y, hy, rfl⟩ := List.mem_map.1 hx
    exact hi y hy
  · obtain ⟨y, hy, rfl⟩ := List.mem_map.1 hx
    exact BLim_cv y (hb' y hy)
theorem eqDisk_ev (a b : List Bool) (I : List S105) (B : List S59) (h : DLimT a b I B) : Ev (fun k => laws_eqDisk.f k a b I B a b I B) true := by
  obtain ⟨⟨ha, hb⟩, ⟨hI, hi⟩, hB, hb'⟩ := h
  unfold laws_eqDisk.f
  exact Ev.bind (eqBits_ev a b ha hb) (Ev.bind (laws_eqInodeS_refl I hI hi) (Ev.bind (laws_eqBlockS_refl B hB hb') (Ev.now _)))

open Classical in
/-- A proposition as a Bool. -/
noncomputable def dB (p : Prop) : Bool := decide p
theorem dB_true {p : Prop} (h : p) : dB p = true := @decide_eq_true p (Classical.propDecidable p) h
theorem dB_false {p : Prop} (h : ¬ p) : dB p = false := @decide_eq_false p (Classical.propDecidable p) h
theorem dB_congr {p q : Prop} (h : p ↔ q) : dB p = dB q := by rw [propext h]
theorem of_dB {p : Prop} (h : dB p = true) : p := Classical.byContradiction fun hp => by rw [dB_false hp] at h; exact absurd h (by decide)

theorem dB_decide {p : Prop} [Decidable p] : decide p = dB p := by
  by_cases h : p
  · rw [decide_eq_true h, dB_true h]
  · rw [decide_eq_false h, dB_false h]
/-- A loop that asks each element, and ends at the first that is not right. -/
theorem all_loop {α : Type} (z : α) (l : List α) (f : Nat → Int → Option Bool) (c : Nat → α → Option Bool) (P : α → Prop) (R : Bool) (hc : ∀ x ∈ l, Ev (fun k => c k x) (dB (P x))) (hstep : ∀ (k i : Nat), i < l.length → f (k + 1) (i : Int) = (c k (l.getD i z)).bind (fun t => if t = true then f k ((i + 1 : Nat) : Int) else some false)) (hend : Ev (fun k => f k (l.length : Int)) R) (d : Nat) : ∀ (i : Nat), i ≤ l.length → l.length - i = d → Ev (fun k => f k (i : Int)) (dB ((∀ x ∈ l.drop i, P x) ∧ R = true)) := by
  induction d with
  | zero =>
    intro i hi hd
    obtain rfl : i = l.length := by omega
    have e : dB ((∀ x ∈ l.drop l.length, P x) ∧ R = true) = R := by
      cases R with
      | true => exact dB_true ⟨fun x hx => by simp at hx, rfl⟩
      | false => exact dB_false (fun h => by simp at h)
    rw [e]
    exact hend
  | succ d ih =>
    intro i hi hd
    have hlt : i < l.length := by omega
    have hdr : l.drop i = l.getD i z :: l.drop (i + 1) := by
      rw [List.drop_eq_getElem_cons hlt, List.getD_eq_getElem?_getD, List.getElem?_eq_getElem hlt]
      rfl
    have hx := hc _ (getD_mem (xs := l) (i := i) z hlt)
    refine Ev.step (fun k => hstep k i hlt) (Ev.bind hx ?_)
    by_cases hp : P (l.getD i z)
    · rw [dB_true hp]
      have e : dB ((∀ x ∈ l.drop i, P x) ∧ R = true) = dB ((∀ x ∈ l.drop (i + 1), P x) ∧ R = true) := dB_congr (by
        rw [hdr]
        simp only [List.mem_cons, forall_eq_or_imp, hp, true_and])
      rw [e]
      exact Ev.congr (fun k => by rw [if_pos rfl]) (ih (i + 1) (by omega) (by omega))
    · rw [dB_false hp, dB_false (fun h => hp (h.1 _ (by rw [hdr]; exact List.mem_cons_self)))]
      exact Ev.now' fun _ => rfl
theorem all_loop0 {α : Type} (z : α) (l : List α) (f : Nat → Int → Option Bool) (c : Nat → α → Option Bool) (P : α → Prop) (R : Bool) (hc : ∀ x ∈ l, Ev (fun k => c k x) (dB (P x))) (hstep : ∀ (k i : Nat), i < l.length → f (k + 1) (i : Int) = (c k (l.getD i z)).bind (fun t => if t = true then f k ((i + 1 : Nat) : Int) else some false)) (hend : Ev (fun k => f k (l.length : Int)) R) : Ev (fun k => f k 0) (dB ((∀ x ∈ l, P x) ∧ R = true)) := by
  have h := all_loop z l f c P R hc hstep hend l.length 0 (Nat.zero_le _) rfl
  rw [List.drop_zero] at h
  exact h

theorem list_ext_getD {α : Type} (z : α) {a b : List α} (hl : a.length = b.length) (h : ∀ i, i < a.length → a.getD i z = b.getD i z) : a = b := List.ext_getElem hl (fun i h1 h2 => by
  have q := h i h1
  rw [List.getD_eq_getElem?_getD, List.getD_eq_getElem?_getD, List.getElem?_eq_getElem h1, List.getElem?_eq_getElem h2] at q
  exact q)
theorem eq_loop_at {α : Type} (z : α) (a b : List α) (hl : a.length = b.length) (f : Nat → Int → Option Bool) (c : Nat → Nat → Option Bool) (R : Bool) (hc : ∀ i, i < a.length → Ev (fun k => c k i) (dB (a.getD i z = b.getD i z))) (hstep : ∀ (k i : Nat), i < a.length → f (k + 1) (i : Int) = (c k i).bind (fun t => if t = true then f k ((i + 1 : Nat) : Int) else some false)) (hend : Ev (fun k => f k (a.length : Int)) R) (d : Nat) : ∀ (i : Nat), i ≤ a.length → a.length - i = d → Ev (fun k => f k (i : Int)) (dB ((∀ j, i ≤ j → j < a.length → a.getD j z = b.getD j z) ∧ R = true)) := by
  induction d with
  | zero =>
    intro i hi hd
    obtain rfl : i = a.length := by omega
    have e : dB ((∀ j, a.length ≤ j → j < a.length → a.getD j z = b.getD j z) ∧ R = true) = R := by
      cases R with
      | true => exact dB_true ⟨fun j h h' => by omega, rfl⟩
      | false => exact dB_false (fun h => by simp at h)
    rw [e]
    exact hend
  | succ d ih =>
    intro i hi hd
    have hlt : i < a.length := by omega
    refine Ev.step (fun k => hstep k i hlt) (Ev.bind (hc i hlt) ?_)
    by_cases hp : a.getD i z = b.getD i z
    · rw [dB_true hp]
      have e : dB ((∀ j, i ≤ j → j < a.length → a.getD j z = b.getD j z) ∧ R = true) = dB ((∀ j, i + 1 ≤ j → j < a.length → a.getD j z = b.getD j z) ∧ R = true) := dB_congr ⟨fun q => ⟨fun j hj => q.1 j (by omega), q.2⟩, fun q => ⟨fun j hj hj' => by
        by_cases ej : j = i
        · rw [ej]; exact hp
        · exact q.1 j (by omega) hj', q.2⟩⟩
      rw [e]
      exact Ev.congr (fun k => by rw [if_pos rfl]) (ih (i + 1) (by omega) (by omega))
    · rw [dB_false hp, dB_false (fun h => hp (h.1 i (Nat.le_refl _) hlt))]
      exact Ev.now' fun _ => rfl
/-- A loop that compares two lists of one length, element by element. -/
theorem eq_loop {α : Type} (z : α) (a b : List α) (hl : a.length = b.length) (f : Nat → Int → Option Bool) (c : Nat → Nat → Option Bool) (R : Bool) (hc : ∀ i, i < a.length → Ev (fun k => c k i) (dB (a.getD i z = b.getD i z))) (hstep : ∀ (k i : Nat), i < a.length → f (k + 1) (i : Int) = (c k i).bind (fun t => if t = true then f k ((i + 1 : Nat) : Int) else some false)) (hend : Ev (fun k => f k (a.length : Int)) R) : Ev (fun k => f k 0) (dB (a = b ∧ R = true)) := by
  have h := eq_loop_at z a b hl f c R hc hstep hend a.length 0 (Nat.zero_le _) rfl
  have e : dB ((∀ j, 0 ≤ j → j < a.length → a.getD j z = b.getD j z) ∧ R = true) = dB (a = b ∧ R = true) := dB_congr ⟨fun q => ⟨list_ext_getD z hl (fun i hi => q.1 i (Nat.zero_le _) hi), q.2⟩, fun q => ⟨fun j _ _ => by rw [q.1], q.2⟩⟩
  rw [e] at h
  exact h
theorem dB_and_true (p : Prop) : dB (p ∧ true = true) = dB p := dB_congr ⟨fun q => q.1, fun q => ⟨q, rfl⟩⟩
theorem len_ne {α : Type} {a b : List α} (h : ¬ a.length = b.length) : ¬ a = b := fun e => h (by rw [e])
theorem if_dB {α : Type} {p q : Prop} [Decidable q] (h : q ↔ p) (x y : Option α) : (if q then x else y) = (some (dB p)).bind (fun t => if t = true then x else y) := by
  by_cases hq : q
  · rw [if_pos hq, dB_true (h.1 hq)]; rfl
  · rw [if_neg hq, dB_false (fun hp => hq (h.2 hp))]; rfl
theorem if_dBn {α : Type} {p q : Prop} [Decidable q] (h : q ↔ ¬ p) (x y : Option α) : (if q then y else x) = (some (dB p)).bind (fun t => if t = true then x else y) := by
  by_cases hq : q
  · rw [if_pos hq, dB_false (h.1 hq)]; rfl
  · rw [if_neg hq, dB_true (Classical.byContradiction fun hp => hq (h.2 hp))]; rfl

theorem slot_ne (x y : S69) : (!((x.f0.toList) == (y.f0.toList)) || (!((x.f1) == (y.f1)))) = true ↔ ¬ x = y := by
  rw [Bool.or_eq_true, Bool.not_eq_true', Bool.not_eq_true', beq_eq_false_iff_ne, beq_eq_false_iff_ne]
  constructor
  · intro h e
    subst e
    rcases h with h | h <;> exact h rfl
  · intro h
    by_cases h0 : x.f0.toList = y.f0.toList
    · refine Or.inr (fun h1 => h ?_)
      have h2 := toList_inj h0
      cases x; cases y
      simp only at h1 h2
      rw [h1, h2]
    · exact Or.inl h0
theorem wsucc {i n : Nat} (h : i < n) (hn : n ≤ 1048576) : wrap64 ((i : Int) + 1) = ((i + 1 : Nat) : Int) := by rw [w64 (by omega) (by omega)]; omega
theorem spec_sameBools (a b : List Bool) (ha : a.length ≤ 1048576) : Ev (fun k => spec_l07SameBools.f k a b) (dB (a = b)) := by
  unfold spec_l07SameBools.f
  by_cases hl : a.length = b.length
  · simp only [if_pos (show (a.length : Int) = (b.length : Int) by omega)]
    rw [← dB_and_true]
    refine eq_loop false a b hl (fun k i => spec_l07SameBools.l0 k a b i) (fun _ i => some (dB (a.getD i false = b.getD i false))) true (fun i _ => Ev.now _) (fun k i hi => ?_) (Ev.last fun k => by simp only [spec_l07SameBools.l0]; rw [if_neg (by omega)])
    simp only [spec_l07SameBools.l0, wsucc hi ha]
    rw [if_pos (by omega), if_pos (by omega), if_pos (by omega)]
    exact if_dBn (p := a.getD i false = b.getD i false) bne_iff_ne _ _
  · rw [dB_false (len_ne hl)]
    exact Ev.now' fun _ => by rw [if_neg (by omega)]
theorem impl_sameBools (a b : List Bool) (ha : a.length ≤ 1048576) : Ev (fun k => slices_Equal_bool_bool.f k a b) (dB (a = b)) := by
  unfold slices_Equal_bool_bool.f
  by_cases hl : a.length = b.length
  · simp only [if_pos (show (a.length : Int) = (b.length : Int) by omega)]
    rw [← dB_and_true]
    refine eq_loop false a b hl (fun k i => slices_Equal_bool_bool.l0 k a b (a.length : Int) i) (fun _ i => some (dB (a.getD i false = b.getD i false))) true (fun i _ => Ev.now _) (fun k i hi => ?_) (Ev.last fun k => by simp only [slices_Equal_bool_bool.l0]; rw [if_neg (by omega)])
    simp only [slices_Equal_bool_bool.l0, wsucc hi ha]
    rw [if_pos (by omega), if_pos (by omega), if_pos (by omega), if_pos (by omega)]
    exact if_dBn (p := a.getD i false = b.getD i false) bne_iff_ne _ _
  · rw [dB_false (len_ne hl)]
    exact Ev.now' fun _ => by rw [if_neg (by omega)]
theorem impl_sameInts (a b : List Int) (ha : a.length ≤ 1048576) : Ev (fun k => slices_Equal_int_int.f k a b) (dB (a = b)) := by
  unfold slices_Equal_int_int.f
  by_cases hl : a.length = b.length
  · simp only [if_pos (show (a.length : Int) = (b.length : Int) by omega)]
    rw [← dB_and_true]
    refine eq_loop 0 a b hl (fun k i => slices_Equal_int_int.l0 k a b (a.length : Int) i) (fun _ i => some (dB (a.getD i 0 = b.getD i 0))) true (fun i _ => Ev.now _) (fun k i hi => ?_) (Ev.last fun k => by simp only [slices_Equal_int_int.l0]; rw [if_neg (by omega)])
    simp only [slices_Equal_int_int.l0, wsucc hi ha]
    rw [if_pos (by omega), if_pos (by omega), if_pos (by omega), if_pos (by omega)]
    exact if_dB (p := a.getD i 0 = b.getD i 0) Iff.rfl _ _
  · rw [dB_false (len_ne hl)]
    exact Ev.now' fun _ => by rw [if_neg (by omega)]
theorem impl_sameSlots (a b : List S69) (ha : a.length ≤ 1048576) : Ev (fun k => impl_Slot.f k a b) (dB (a = b)) := by
  unfold impl_Slot.f
  by_cases hl : a.length = b.length
  · simp only [if_pos (show (a.length : Int) = (b.length : Int) by omega)]
    rw [← dB_and_true]
    refine eq_loop z69 a b hl (fun k i => impl_Slot.l0 k a b (a.length : Int) i) (fun _ i => some (dB (a.getD i z69 = b.getD i z69))) true (fun i _ => Ev.now _) (fun k i hi => ?_) (Ev.last fun k => by simp only [impl_Slot.l0]; rw [if_neg (by omega)])
    simp only [impl_Slot.l0, wsucc hi ha]
    rw [if_pos (by omega), if_pos (by omega), if_pos (by omega), if_pos (by omega)]
    exact if_dBn (p := a.getD i z69 = b.getD i z69) (slot_ne _ _) _ _
  · rw [dB_false (len_ne hl)]
    exact Ev.now' fun _ => by rw [if_neg (by omega)]
theorem S105_eq (x y : S105) : x = y ↔ x.f0 = y.f0 ∧ x.f1 = y.f1 ∧ x.f2 = y.f2 := by
  cases x; cases y; simp
theorem S59_eq (x y : S59) : x = y ↔ x.f0 = y.f0 ∧ x.f2.toList = y.f2.toList ∧ x.f1 = y.f1 := by
  constructor
  · intro h
    subst h
    exact ⟨rfl, rfl, rfl⟩
  · intro ⟨h0, h2, h1⟩
    have h3 := toList_inj h2
    cases x; cases y
    simp only at h0 h1 h3
    rw [h0, h1, h3]
theorem impl_sameinode (x y : S105) (hx : ILimT x) : Ev (fun k => impl_sameInode.f k x.f0 x.f1 x.f2 y.f0 y.f1 y.f2) (dB (x = y)) := by
  unfold impl_sameInode.f
  by_cases h0 : x.f0 = y.f0
  · by_cases h1 : x.f1 = y.f1
    · simp only [if_pos h0, if_pos h1]
      have e : dB (x = y) = dB (x.f2 = y.f2) := dB_congr (by rw [S105_eq]; exact ⟨fun q => q.2.2, fun q => ⟨h0, h1, q⟩⟩)
      rw [e]
      exact Ev.bind (impl_sameInts x.f2 y.f2 hx) (Ev.now _)
    · rw [dB_false (fun q => h1 ((S105_eq x y).1 q).2.1)]
      exact Ev.now' fun _ => by rw [if_pos h0, if_neg h1]
  · rw [dB_false (fun q => h0 ((S105_eq x y).1 q).1)]
    exact Ev.now' fun _ => by rw [if_neg h0]
theorem spec_sameinode (x y : S105) (hx : ILimT x) : Ev (fun k => spec_l03Same.f k x.f0 x.f1 x.f2 y.f0 y.f1 y.f2) (dB (x = y)) := by
  have no : ¬ x = y → Ev (fun k => spec_l03Same.j0 k true x.f0 x.f1 x.f2 y.f0 y.f1 y.f2) (dB (x = y)) := fun h => by
    rw [dB_false h]
    exact Ev.last fun k => by simp only [spec_l03Same.j0]; rfl
  unfold spec_l03Same.f
  by_cases h0 : x.f0 = y.f0
  · by_cases h1 : x.f1 = y.f1
    · simp only [if_pos h0, if_pos h1]
      by_cases hl : x.f2.length = y.f2.length
      · have e0 : ((x.f2.length : Int) != (y.f2.length : Int)) = false := by rw [hl]; exact bne_self_eq_false _
        have e : dB (x = y) = dB (x.f2 = y.f2 ∧ true = true) := dB_congr (by rw [S105_eq]; exact ⟨fun q => ⟨q.2.2, rfl⟩, fun q => ⟨h0, h1, q.1⟩⟩)
        rw [e0, e]
        refine Ev.step (f := fun k => spec_l03Same.l0 k 0 x.f0 x.f1 x.f2 y.f0 y.f1 y.f2) (fun k => by simp only [spec_l03Same.j0]; rfl) ?_
        refine eq_loop 0 x.f2 y.f2 hl (fun k i => spec_l03Same.l0 k i x.f0 x.f1 x.f2 y.f0 y.f1 y.f2) (fun _ i => some (dB (x.f2.getD i 0 = y.f2.getD i 0))) true (fun i _ => Ev.now _) (fun k i hi => ?_) (Ev.last fun k => by simp only [spec_l03Same.l0]; rw [if_neg (by omega)])
        simp only [spec_l03Same.l0, wsucc hi hx]
        rw [if_pos (by omega), if_pos (by omega), if_pos (by omega)]
        exact if_dB (p := x.f2.getD i 0 = y.f2.getD i 0) Iff.rfl _ _
      · have e0 : ((x.f2.length : Int) != (y.f2.length : Int)) = true := by rw [bne_iff_ne]; omega
        rw [e0]
        exact no (fun q => hl (by rw [q]))
    · simp only [if_pos h0, if_neg h1]
      exact no (fun q => h1 ((S105_eq x y).1 q).2.1)
  · simp only [if_neg h0]
    exact no (fun q => h0 ((S105_eq x y).1 q).1)
theorem impl_sameblock (x y : S59) (hx : BLimT x) : Ev (fun k => impl_sameBlock.f k x.f0 x.f1 x.f2 y.f0 y.f1 y.f2) (dB (x = y)) := by
  unfold impl_sameBlock.f
  by_cases h0 : x.f0 = y.f0
  · by_cases h1 : x.f2.toList = y.f2.toList
    · simp only [if_pos (beq_iff_eq.2 h0), if_pos h1]
      have e : dB (x = y) = dB (x.f1 = y.f1) := dB_congr (by rw [S59_eq]; exact ⟨fun q => q.2.2, fun q => ⟨h0, h1, q⟩⟩)
      rw [e]
      exact Ev.bind (impl_sameSlots x.f1 y.f1 hx.1) (Ev.now _)
    · rw [dB_false (fun q => h1 ((S59_eq x y).1 q).2.1)]
      exact Ev.now' fun _ => by rw [if_pos (beq_iff_eq.2 h0), if_neg h1]
  · rw [dB_false (fun q => h0 ((S59_eq x y).1 q).1)]
    exact Ev.now' fun _ => by rw [if_neg (fun q => h0 (beq_iff_eq.1 q))]
theorem spec_sameblock (x y : S59) (hx : BLimT x) : Ev (fun k => spec_l04Same.f k x.f0 x.f1 x.f2 y.f0 y.f1 y.f2) (dB (x = y)) := by
  have no : ¬ x = y → Ev (fun k => spec_l04Same.j0 k true x.f0 x.f1 x.f2 y.f0 y.f1 y.f2) (dB (x = y)) := fun h => by
    rw [dB_false h]
    exact Ev.last fun k => by simp only [spec_l04Same.j0]; rfl
  unfold spec_l04Same.f
  by_cases h0 : x.f0 = y.f0
  · have b0 : ¬ (x.f0 != y.f0) = true := fun q => (bne_iff_ne.1 q) h0
    by_cases h1 : x.f2.toList = y.f2.toList
    · simp only [if_neg b0, if_pos h1]
      by_cases hl : x.f1.length = y.f1.length
      · have e0 : ((x.f1.length : Int) != (y.f1.length : Int)) = false := by rw [hl]; exact bne_self_eq_false _
        have e : dB (x = y) = dB (x.f1 = y.f1 ∧ true = true) := dB_congr (by rw [S59_eq]; exact ⟨fun q => ⟨q.2.2, rfl⟩, fun q => ⟨h0, h1, q.1⟩⟩)
        rw [e0, e]
        refine Ev.step (f := fun k => spec_l04Same.l0 k 0 x.f0 x.f1 x.f2 y.f0 y.f1 y.f2) (fun k => by simp only [spec_l04Same.j0]; rfl) ?_
        refine eq_loop z69 x.f1 y.f1 hl (fun k i => spec_l04Same.l0 k i x.f0 x.f1 x.f2 y.f0 y.f1 y.f2) (fun _ i => some (dB (x.f1.getD i z69 = y.f1.getD i z69))) true (fun i _ => Ev.now _) (fun k i hi => ?_) (Ev.last fun k => by simp only [spec_l04Same.l0]; rw [if_neg (by omega)])
        simp only [spec_l04Same.l0, wsucc hi hx.1]
        rw [if_pos (by omega), if_pos (by omega), if_pos (by omega)]
        exact if_dBn (p := x.f1.getD i z69 = y.f1.getD i z69) (slot_ne _ _) _ _
      · have e0 : ((x.f1.length : Int) != (y.f1.length : Int)) = true := by rw [bne_iff_ne]; omega
        rw [e0]
        exact no (fun q => hl (by rw [q]))
    · simp only [if_neg b0, if_neg h1]
      exact no (fun q => h1 ((S59_eq x y).1 q).2.1)
  · simp only [if_pos (show (x.f0 != y.f0) = true from bne_iff_ne.2 h0)]
    exact no (fun q => h0 ((S59_eq x y).1 q).1)
theorem impl_sameinodes (a b : List S105) (ha : a.length ≤ 1048576) (hx : ∀ x ∈ a, ILimT x) : Ev (fun k => impl_Inode.f k a b) (dB (a = b)) := by
  unfold impl_Inode.f
  by_cases hl : a.length = b.length
  · simp only [if_pos (show (a.length : Int) = (b.length : Int) by omega)]
    rw [← dB_and_true]
    refine eq_loop z105 a b hl (fun k i => impl_Inode.l0 k b a (a.length : Int) i) (fun k i => impl_sameInode.f k (a.getD i z105).f0 (a.getD i z105).f1 (a.getD i z105).f2 (b.getD i z105).f0 (b.getD i z105).f1 (b.getD i z105).f2) true (fun i hi => impl_sameinode _ _ (hx _ (getD_mem z105 hi))) (fun k i hi => ?_) (Ev.last fun k => by simp only [impl_Inode.l0]; rw [if_neg (by omega)])
    simp only [impl_Inode.l0, wsucc hi ha]
    rw [if_pos (by omega), if_pos (by omega), if_pos (by omega), if_pos (by omega)]
    rfl
  · rw [dB_false (len_ne hl)]
    exact Ev.now' fun _ => by rw [if_neg (by omega)]
theorem impl_sameblocks (a b : List S59) (ha : a.length ≤ 1048576) (hx : ∀ x ∈ a, BLimT x) : Ev (fun k => impl_Block.f k a b) (dB (a = b)) := by
  unfold impl_Block.f
  by_cases hl : a.length = b.length
  · simp only [if_pos (show (a.length : Int) = (b.length : Int) by omega)]
    rw [← dB_and_true]
    refine eq_loop z59 a b hl (fun k i => impl_Block.l0 k b a (a.length : Int) i) (fun k i => impl_sameBlock.f k (a.getD i z59).f0 (a.getD i z59).f1 (a.getD i z59).f2 (b.getD i z59).f0 (b.getD i z59).f1 (b.getD i z59).f2) true (fun i hi => impl_sameblock _ _ (hx _ (getD_mem z59 hi))) (fun k i hi => ?_) (Ev.last fun k => by simp only [impl_Block.l0]; rw [if_neg (by omega)])
    simp only [impl_Block.l0, wsucc hi ha]
    rw [if_pos (by omega), if_pos (by omega), if_pos (by omega), if_pos (by omega)]
    rfl
  · rw [dB_false (len_ne hl)]
    exact Ev.now' fun _ => by rw [if_neg (by omega)]
def DEq (a b : List Bool) (I : List S105) (B : List S59) (a' b' : List Bool) (I' : List S105) (B' : List S59) : Prop := a = a' ∧ b = b' ∧ I = I' ∧ B = B'
theorem impl_samedisk (a b : List Bool) (I : List S105) (B : List S59) (a' b' : List Bool) (I' : List S105) (B' : List S59) (h : DLimT a b I B) : Ev (fun k => impl_SameDisk.f k a b I B a' b' I' B') (dB (DEq a b I B a' b' I' B')) := by
  obtain ⟨⟨ha, hb⟩, ⟨hI, hi⟩, hB, hb'⟩ := h
  unfold impl_SameDisk.f
  refine Ev.bind (impl_sameBools a a' ha) ?_
  by_cases h1 : a = a'
  · simp only [dB_true h1, if_true]
    refine Ev.bind (impl_sameBools b b' hb) ?_
    by_cases h2 : b = b'
    · simp only [dB_true h2, if_true]
      refine Ev.bind (impl_sameinodes I I' hI hi) ?_
      by_cases h3 : I = I'
      · simp only [dB_true h3, if_true]
        have e : dB (DEq a b I B a' b' I' B') = dB (B = B') := dB_congr ⟨fun q => q.2.2.2, fun q => ⟨h1, h2, h3, q⟩⟩
        rw [e]
        exact Ev.bind (impl_sameblocks B B' hB hb') (Ev.now _)
      · rw [dB_false h3, dB_false (fun q : DEq a b I B a' b' I' B' => h3 q.2.2.1)]
        exact Ev.now' fun _ => rfl
    · rw [dB_false h2, dB_false (fun q : DEq a b I B a' b' I' B' => h2 q.2.1)]
      exact Ev.now' fun _ => rfl
  · rw [dB_false h1, dB_false (fun q : DEq a b I B a' b' I' B' => h1 q.1)]
    exact Ev.now' fun _ => rfl
theorem spec_samedisk (a b : List Bool) (I : List S105) (B : List S59) (a' b' : List Bool) (I' : List S105) (B' : List S59) (h : DLimT a b I B) : Ev (fun k => spec_SameDisk.f k a b I B a' b' I' B') (dB (DEq a b I B a' b' I' B')) := by
  obtain ⟨⟨ha, hb⟩, ⟨hI, hi⟩, hB, hb'⟩ := h
  have no : ¬ DEq a b I B a' b' I' B' → Ev (fun k => spec_SameDisk.j0 k true a b I B a' b' I' B') (dB (DEq a b I B a' b' I' B')) := fun h => by
    rw [dB_false h]
    exact Ev.last fun k => by simp only [spec_SameDisk.j0]; rfl
  unfold spec_SameDisk.f
  refine Ev.bind (spec_sameBools a a' ha) ?_
  by_cases h1 : a = a'
  · simp only [dB_true h1, if_true]
    refine Ev.bind (spec_sameBools b b' hb) ?_
    by_cases h2 : b = b'
    · simp only [dB_true h2, if_true]
      by_cases l3 : I.length = I'.length
      · simp only [if_pos (show (I.length : Int) = (I'.length : Int) by omega)]
        by_cases l4 : B.length = B'.length
        · have e0 : ((B.length : Int) != (B'.length : Int)) = false := by rw [l4]; exact bne_self_eq_false _
          rw [e0]
          refine Ev.step (f := fun k => spec_SameDisk.l0 k 0 a b I B a' b' I' B') (fun k => by simp only [spec_SameDisk.j0]; rfl) ?_
          have q1 := eq_loop z59 B B' l4 (fun k i => spec_SameDisk.l1 k i a b I B a' b' I' B') (fun k i => spec_l04Same.f k (B.getD i z59).f0 (B.getD i z59).f1 (B.getD i z59).f2 (B'.getD i z59).f0 (B'.getD i z59).f1 (B'.getD i z59).f2) true (fun i hi => spec_sameblock _ _ (hb' _ (getD_mem z59 hi))) (fun k i hi => by
            simp only [spec_SameDisk.l1, wsucc hi hB]
            rw [if_pos (by omega), if_pos (by omega), if_pos (by omega)]
            rfl) (Ev.last fun k => by simp only [spec_SameDisk.l1]; rw [if_neg (by omega)])
          have q2 := eq_loop z105 I I' l3 (fun k i => spec_SameDisk.l0 k i a b I B a' b' I' B') (fun k i => spec_l03Same.f k (I.getD i z105).f0 (I.getD i z105).f1 (I.getD i z105).f2 (I'.getD i z105).f0 (I'.getD i z105).f1 (I'.getD i z105).f2) _ (fun i hi' => spec_sameinode _ _ (hi _ (getD_mem z105 hi'))) (fun k i hi' => by
            simp only [spec_SameDisk.l0, wsucc hi' hI]
            rw [if_pos (by omega), if_pos (by omega), if_pos (by omega)]
            rfl) (Ev.step (fun k => by simp only [spec_SameDisk.l0]; rw [if_neg (by omega)]) q1)
          have e : dB (DEq a b I B a' b' I' B') = dB (I = I' ∧ dB (B = B' ∧ true = true) = true) := dB_congr ⟨fun q => ⟨q.2.2.1, dB_true ⟨q.2.2.2, rfl⟩⟩, fun q => ⟨h1, h2, q.1, (of_dB q.2).1⟩⟩
          rw [e]
          exact q2
        · have e0 : ((B.length : Int) != (B'.length : Int)) = true := by rw [bne_iff_ne]; omega
          rw [e0]
          exact no (fun q => l4 (by rw [q.2.2.2]))
      · simp only [if_neg (show ¬ (I.length : Int) = (I'.length : Int) by omega)]
        exact no (fun q => l3 (by rw [q.2.2.1]))
    · simp only [dB_false h2, Bool.false_eq_true, if_false]
      exact no (fun q => h2 q.2.1)
  · simp only [dB_false h1, Bool.false_eq_true, if_false]
    exact no (fun q => h1 q.1)
theorem FnExactSameDisk : laws_FnExactSameDisk.Pure := by
  intro a b I B a' b' I' B' hg hg'
  unfold laws_FnExactSameDisk.f
  obtain ⟨r, hr, r1, hlim⟩ := szDisk_ev a b I B 1048576 hg (by omega) (by omega)
  refine Ev.rounds (Ev.bind hr ?_)
  by_cases hneg : r < 0
  · exact Ev.now' fun _ => by rw [if_pos hneg]
  · simp only [if_neg hneg]
    obtain ⟨r', hr', _, hlim'⟩ := szDisk_ev a' b' I' B' r hg' (by omega) (by omega)
    refine Ev.bind hr' ?_
    by_cases hneg' : r' < 0
    · exact Ev.now' fun _ => by rw [if_pos hneg']
    · simp only [if_neg hneg']
      have h := hlim (by omega)
      have h' := hlim' (by omega)
      have hT := DLim_cv h
      have hT' := DLim_cv h'
      refine Ev.bind (toDisk_ev a b I B h) (Ev.bind (toDisk_ev a' b' I' B' h') (Ev.bind (spec_samedisk a b _ _ a' b' _ _ hT) (Ev.bind (toDisk_ev a b I B h) (Ev.bind (toDisk_ev a' b' I' B' h') (Ev.bind (impl_samedisk a b _ _ a' b' _ _ hT) ?_)))))
      simp only [bne_self_eq_false, Bool.false_eq_true, if_false]
      refine Ev.bind (toDisk_ev a b I B h) (Ev.bind (eqDisk_ev a b _ _ hT) ?_)
      simp only [if_true]
      exact Ev.bind (toDisk_ev a' b' I' B' h') (Ev.bind (eqDisk_ev a' b' _ _ hT') (Ev.now _))
end Go.Proofs.Ytdnbpapolckklaa.Pure
