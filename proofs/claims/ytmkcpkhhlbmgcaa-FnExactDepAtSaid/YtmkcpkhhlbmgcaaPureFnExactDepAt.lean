/- FnExactDepAt: for every Mem and every two numbers the program's DepAt answers what the reference's does, and leaves its argument as it was; no condition. -/
import Derived.Test.YtmkcpkhhlbmgcaaPFnExactDepAtx9
import Derived.Test.YtmkcpkhhlbmgcaaAid
namespace Go.Proofs.Ytmkcpkhhlbmgcaa.Pure
open Go.RowKit Go.Proofs.Ytmkcpkhhlbmgcaa.PFnExactDepAt Go.Proofs.YtmkcpkhhlbmgcaaW.PrintWords Go.Proofs.YtmkcpkhhlbmgcaaW.PrintLast Go.Proofs.YtmkcpkhhlbmgcaaW.PrintMore Go.Proofs.Ytmkcpkhhlbmgcaa.Aid
set_option linter.unusedVariables false
set_option linter.unusedSimpArgs false

theorem laws_szBoolS_eq (l : List (Bool)) (a : Int) (hl : l.length ≤ 140737488355328) (h0 : 0 ≤ a) (h1 : a ≤ 1048576) : laws_szBoolS.f l a = some (if a - l.length < 0 then -1 else a - l.length) := by
  unfold laws_szBoolS.f
  rw [w64 (by omega) (by omega)]
  split <;> rfl

theorem szBits_eq (a b : List Bool) (m : Int) (ha : a.length ≤ 140737488355328) (hb : b.length ≤ 140737488355328) (m0 : 0 ≤ m) (m1 : m ≤ 1048576) : ∃ r, laws_szBits.f a b m = some r ∧ r ≤ m ∧ (0 ≤ r → a.length ≤ 1048576 ∧ b.length ≤ 1048576) := by
  unfold laws_szBits.f
  rw [laws_szBoolS_eq a m (by omega) m0 m1]
  simp only [Option.bind_some]
  by_cases h1 : m - a.length < 0
  · exact ⟨-1, by simp [h1], by omega, fun h => by omega⟩
  · rw [if_neg h1, if_neg h1, laws_szBoolS_eq b _ (by omega) (by omega) (by omega)]
    simp only [Option.bind_some]
    by_cases h2 : m - a.length - b.length < 0
    · exact ⟨-1, by simp [h2], by omega, fun h => by omega⟩
    · exact ⟨m - a.length - b.length, by simp [h2], by omega, fun h => by omega⟩

theorem laws_toBoolS_loop (l : List (Bool)) (hl : l.length ≤ 1048576) (d : Nat) : ∀ (y : List (Bool)) (i : Int), 0 ≤ i → i ≤ l.length → (l.length : Int) - i = d → y.length = l.length → y.take i.toNat = l.take i.toNat → Ev (fun k => laws_toBoolS.l0 k l y i) l := by
  induction d with
  | zero =>
    intro y i h0 h1 hd hy ht
    have e : y = l := take_all hy (by rw [show l.length = i.toNat by omega]; exact ht)
    subst e
    exact Ev.last (fun k => by simp only [laws_toBoolS.l0]; rw [if_neg (by omega)])
  | succ d ih =>
    intro y i h0 h1 hd hy ht
    have hw : wrap64 (i + 1) = i + 1 := w64 (by omega) (by omega)
    have hs := set_take l y false i.toNat (by omega) hy ht
    refine Ev.step (fun k => ?_) (ih (y.set i.toNat (l.getD i.toNat false)) (i + 1) (by omega) (by omega) (by omega) (by rw [List.length_set]; exact hy) (by rw [toNat_succ h0]; exact hs))
    simp only [laws_toBoolS.l0]
    rw [if_pos (by omega), if_pos h0, if_pos (by omega), hw]
    rfl
theorem laws_toBoolS_ev (l : List (Bool)) (hl : l.length ≤ 1048576) : Ev (fun k => laws_toBoolS.f k l) l := by
  have h := laws_toBoolS_loop l hl l.length (List.replicate l.length false) 0 (by omega) (by omega) (by omega) (by simp) (by simp)
  refine Ev.congr (fun k => ?_) h
  unfold laws_toBoolS.f
  rw [if_pos (by omega), if_pos (by omega)]
  rfl

theorem toBits_ev (a b : List Bool) (ha : a.length ≤ 1048576) (hb : b.length ≤ 1048576) : Ev (fun k => laws_toBits.f k a b) (a, b) := by
  unfold laws_toBits.f
  exact Ev.bind (laws_toBoolS_ev a ha) (Ev.bind (laws_toBoolS_ev b hb) (Ev.now _))

theorem laws_eqBoolS_loop (l : List (Bool)) (hl : l.length ≤ 1048576) (d : Nat) : ∀ (i : Int), 0 ≤ i → i ≤ l.length → (l.length : Int) - i = d → Ev (fun k => laws_eqBoolS.l0 k l l i) true := by
  induction d with
  | zero =>
    intro i h0 h1 hd
    exact Ev.last (fun k => by simp only [laws_eqBoolS.l0]; rw [if_neg (by omega)])
  | succ d ih =>
    intro i h0 h1 hd
    have hw : wrap64 (i + 1) = i + 1 := w64 (by omega) (by omega)
    refine Ev.step (fun k => ?_) (ih (i + 1) (by omega) (by omega) (by omega))
    simp only [laws_eqBoolS.l0]
    rw [if_pos (by omega), if_pos h0, if_pos (by omega), hw]
    simp
theorem laws_eqBoolS_refl (l : List (Bool)) (hl : l.length ≤ 1048576) : Ev (fun k => laws_eqBoolS.f k l l) true := by
  refine Ev.congr (fun k => ?_) (laws_eqBoolS_loop l hl l.length 0 (by omega) (by omega) (by omega))
  unfold laws_eqBoolS.f
  rw [if_pos rfl]

theorem eqBits_ev (a b : List Bool) (ha : a.length ≤ 1048576) (hb : b.length ≤ 1048576) : Ev (fun k => laws_eqBits.f k a b a b) true := by
  unfold laws_eqBits.f
  exact Ev.bind (laws_eqBoolS_refl a ha) (Ev.bind (laws_eqBoolS_refl b hb) (Ev.now _))

theorem laws_szIntS_eq (l : List (Int)) (a : Int) (hl : l.length ≤ 140737488355328) (h0 : 0 ≤ a) (h1 : a ≤ 1048576) : laws_szIntS.f l a = some (if a - l.length < 0 then -1 else a - l.length) := by
  unfold laws_szIntS.f
  rw [w64 (by omega) (by omega)]
  split <;> rfl

theorem szInode_eq (x y : Int) (l : List Int) (a : Int) (hl : l.length ≤ 140737488355328) (h0 : 0 ≤ a) (h1 : a ≤ 1048576) : laws_szInode.f x y l a = some (if a - l.length < 0 then -1 else a - l.length) := by
  unfold laws_szInode.f
  rw [laws_szIntS_eq l a hl h0 h1]
  simp only [Option.bind_some]
  by_cases h : a - (l.length : Int) < 0
  · simp [h]
  · simp [h]

theorem laws_toIntS_loop (l : List (Int)) (hl : l.length ≤ 1048576) (d : Nat) : ∀ (y : List (Int)) (i : Int), 0 ≤ i → i ≤ l.length → (l.length : Int) - i = d → y.length = l.length → y.take i.toNat = l.take i.toNat → Ev (fun k => laws_toIntS.l0 k l y i) l := by
  induction d with
  | zero =>
    intro y i h0 h1 hd hy ht
    have e : y = l := take_all hy (by rw [show l.length = i.toNat by omega]; exact ht)
    subst e
    exact Ev.last (fun k => by simp only [laws_toIntS.l0]; rw [if_neg (by omega)])
  | succ d ih =>
    intro y i h0 h1 hd hy ht
    have hw : wrap64 (i + 1) = i + 1 := w64 (by omega) (by omega)
    have hs := set_take l y 0 i.toNat (by omega) hy ht
    refine Ev.step (fun k => ?_) (ih (y.set i.toNat (l.getD i.toNat 0)) (i + 1) (by omega) (by omega) (by omega) (by rw [List.length_set]; exact hy) (by rw [toNat_succ h0]; exact hs))
    simp only [laws_toIntS.l0]
    rw [if_pos (by omega), if_pos h0, if_pos (by omega), hw]
    rfl
theorem laws_toIntS_ev (l : List (Int)) (hl : l.length ≤ 1048576) : Ev (fun k => laws_toIntS.f k l) l := by
  have h := laws_toIntS_loop l hl l.length (List.replicate l.length 0) 0 (by omega) (by omega) (by omega) (by simp) (by simp)
  refine Ev.congr (fun k => ?_) h
  unfold laws_toIntS.f
  rw [if_pos (by omega), if_pos (by omega)]
  rfl

theorem toInode_ev (a b : Int) (l : List Int) (hl : l.length ≤ 1048576) : Ev (fun k => laws_toInode.f k a b l) (a, b, l) := by
  unfold laws_toInode.f
  exact Ev.bind (laws_toIntS_ev l hl) (Ev.now _)

theorem laws_eqIntS_loop (l : List (Int)) (hl : l.length ≤ 1048576) (d : Nat) : ∀ (i : Int), 0 ≤ i → i ≤ l.length → (l.length : Int) - i = d → Ev (fun k => laws_eqIntS.l0 k l l i) true := by
  induction d with
  | zero =>
    intro i h0 h1 hd
    exact Ev.last (fun k => by simp only [laws_eqIntS.l0]; rw [if_neg (by omega)])
  | succ d ih =>
    intro i h0 h1 hd
    have hw : wrap64 (i + 1) = i + 1 := w64 (by omega) (by omega)
    refine Ev.step (fun k => ?_) (ih (i + 1) (by omega) (by omega) (by omega))
    simp only [laws_eqIntS.l0]
    rw [if_pos (by omega), if_pos h0, if_pos (by omega), hw]
    simp
theorem laws_eqIntS_refl (l : List (Int)) (hl : l.length ≤ 1048576) : Ev (fun k => laws_eqIntS.f k l l) true := by
  refine Ev.congr (fun k => ?_) (laws_eqIntS_loop l hl l.length 0 (by omega) (by omega) (by omega))
  unfold laws_eqIntS.f
  rw [if_pos rfl]

theorem eqInode_ev (a b : Int) (l : List Int) (hl : l.length ≤ 1048576) : Ev (fun k => laws_eqInode.f k a b l a b l) true := by
  unfold laws_eqInode.f
  simp only [if_true]
  exact Ev.bind (laws_eqIntS_refl l hl) (Ev.now _)


/-- The program's inode of a law's inode. -/
def cvI (x : S75) : S81 := ⟨x.f0, x.f1, x.f2⟩
def ILim (x : S75) : Prop := x.f2.length ≤ 1048576
def ILimT (x : S81) : Prop := x.f2.length ≤ 1048576
theorem szInode_ev (x : S75) (a : Int) (hg : good75 x) (a0 : 0 ≤ a) (a1 : a ≤ 1048576) : ∃ r, Ev (fun _ => laws_szInode.f x.f0 x.f1 x.f2 a) r ∧ r ≤ a ∧ (r < 0 → r = -1) ∧ (0 ≤ r → ILim x) := by
  obtain ⟨_, _, h, _⟩ := hg
  rw [szInode_eq x.f0 x.f1 x.f2 a (by omega) a0 a1]
  unfold ILim
  split
  · exact ⟨-1, Ev.now _, by omega, fun _ => rfl, fun h => by omega⟩
  · exact ⟨_, Ev.now _, by omega, fun h => by omega, fun _ => by omega⟩
theorem toInodeX_ev (x : S75) (h : ILim x) : Ev (fun k => laws_toInode.f k x.f0 x.f1 x.f2) (x.f0, x.f1, x.f2) := toInode_ev x.f0 x.f1 x.f2 h
theorem eqInodeX_ev (x : S81) (h : ILimT x) : Ev (fun k => laws_eqInode.f k x.f0 x.f1 x.f2 x.f0 x.f1 x.f2) true := eqInode_ev x.f0 x.f1 x.f2 h

theorem laws_szInodeS_loop (l : List S75) (hl : l.length ≤ 140737488355328) (hg : ∀ x ∈ l, good75 x) (d : Nat) : ∀ (a i : Int), 0 ≤ a → a ≤ 1048576 → 0 ≤ i → i ≤ l.length → (l.length : Int) - i = d → ∃ r, Ev (fun k => laws_szInodeS.l0 k l a i) r ∧ r ≤ a ∧ (r < 0 → r = -1) ∧ (0 ≤ r → ∀ j : Nat, i ≤ j → j < l.length → ILim (l.getD j z75)) := by
  induction d with
  | zero =>
    intro a i a0 a1 h0 h1 hd
    exact ⟨a, Ev.last (fun k => by simp only [laws_szInodeS.l0]; rw [if_neg (by omega)]), by omega, by omega, fun _ j j0 j1 => by omega⟩
  | succ d ih =>
    intro a i a0 a1 h0 h1 hd
    have hw : wrap64 (i + 1) = i + 1 := w64 (by omega) (by omega)
    obtain ⟨t, ht, t1, t2, t3⟩ := szInode_ev (l.getD i.toNat z75) a (hg _ (getD_mem (xs := l) (i := i.toNat) z75 (by omega))) a0 a1
    have key : ∀ k, laws_szInodeS.l0 (k + 1) l a i = ((fun (k : Nat) (x : S75) (a : Int) => laws_szInode.f x.f0 x.f1 x.f2 a) k (l.getD i.toNat z75) a).bind (fun t => if t < 0 then some (-1) else laws_szInodeS.l0 k l t (i + 1)) := fun k => by
      simp only [laws_szInodeS.l0]
      rw [if_pos (by omega), if_pos h0, hw]
      rfl
    by_cases hneg : t < 0
    · exact ⟨-1, Ev.step key (Ev.bind ht (Ev.now' fun _ => by rw [if_pos hneg])), by omega, fun _ => rfl, fun h => by omega⟩
    · obtain ⟨r, hr, h2, h3, h4⟩ := ih t (i + 1) (by omega) (by omega) (by omega) (by omega) (by omega)
      refine ⟨r, Ev.step key (Ev.bind ht (Ev.congr (fun k => by rw [if_neg hneg]) hr)), by omega, h3, fun hr0 j j0 j1 => ?_⟩
      by_cases ej : j = i.toNat
      · subst ej
        exact t3 (by omega)
      · exact h4 hr0 j (by omega) j1
theorem laws_szInodeS_ev (l : List S75) (a : Int) (hl : l.length ≤ 140737488355328) (hg : ∀ x ∈ l, good75 x) (a0 : 0 ≤ a) (a1 : a ≤ 1048576) : ∃ r, Ev (fun k => laws_szInodeS.f k l a) r ∧ r ≤ a ∧ (r < 0 → r = -1) ∧ (0 ≤ r → l.length ≤ 1048576 ∧ ∀ s ∈ l, ILim s) := by
  have hw : wrap64 (a - (l.length : Int)) = a - l.length := w64 (by omega) (by omega)
  by_cases hneg : a - (l.length : Int) < 0
  · exact ⟨-1, Ev.now' fun k => by unfold laws_szInodeS.f; rw [hw, if_pos hneg], by omega, fun _ => rfl, fun h => by omega⟩
  · obtain ⟨r, hr, h2, h3, h4⟩ := laws_szInodeS_loop l hl hg l.length (a - l.length) 0 (by omega) (by omega) (by omega) (by omega) (by omega)
    refine ⟨r, Ev.congr (fun k => ?_) hr, by omega, h3, fun hr0 => ⟨by omega, fun s hs => ?_⟩⟩
    · unfold laws_szInodeS.f
      rw [hw, if_neg hneg]
    · obtain ⟨j, hj, e⟩ := List.mem_iff_getElem.1 hs
      have := h4 hr0 j (by omega) hj
      rw [List.getD_eq_getElem?_getD, List.getElem?_eq_getElem hj] at this
      rw [← e]
      exact this

theorem laws_toInodeS_loop (l : List S75) (hl : l.length ≤ 1048576) (hg : ∀ x ∈ l, ILim x) (d : Nat) : ∀ (y : List S81) (i : Int), 0 ≤ i → i ≤ l.length → (l.length : Int) - i = d → y.length = l.length → y.take i.toNat = (l.map cvI).take i.toNat → Ev (fun k => laws_toInodeS.l0 k l y i) (l.map cvI) := by
  induction d with
  | zero =>
    intro y i h0 h1 hd hy ht
    have e : y = l.map cvI := take_all (by simpa using hy) (by rw [List.length_map, show l.length = i.toNat by omega]; exact ht)
    subst e
    exact Ev.last (fun k => by simp only [laws_toInodeS.l0]; rw [if_neg (by omega)])
  | succ d ih =>
    intro y i h0 h1 hd hy ht
    have hw : wrap64 (i + 1) = i + 1 := w64 (by omega) (by omega)
    have hx := toInodeX_ev (l.getD i.toNat z75) (hg _ (getD_mem (xs := l) (i := i.toNat) z75 (by omega)))
    have hs := set_take (l.map cvI) y (cvI z75) i.toNat (by rw [List.length_map]; omega) (by simpa using hy) ht
    have hm : (l.map cvI).getD i.toNat (cvI z75) = cvI (l.getD i.toNat z75) := by simp [List.getD_eq_getElem?_getD, List.getElem?_map, List.getElem?_eq_getElem (show i.toNat < l.length by omega)]
    rw [hm] at hs
    have h2 : i < (l.length : Int) := by omega
    have h3 : i < (y.length : Int) := by omega
    have key : ∀ k, laws_toInodeS.l0 (k + 1) l y i = ((fun (k : Nat) (x : S75) => laws_toInode.f k x.f0 x.f1 x.f2) k (l.getD i.toNat z75)).bind (fun t => laws_toInodeS.l0 k l (y.set i.toNat ((fun t => (⟨t.1, t.2.1, t.2.2⟩ : S81)) t)) (i + 1)) := fun k => by
      simp only [laws_toInodeS.l0, if_pos h2, if_pos h0, if_pos h3, hw]
      rfl
    exact Ev.step key (Ev.bind hx (ih (y.set i.toNat (cvI (l.getD i.toNat z75))) (i + 1) (by omega) (by omega) (by omega) (by rw [List.length_set]; exact hy) (by rw [toNat_succ h0]; exact hs)))
theorem laws_toInodeS_ev (l : List S75) (hl : l.length ≤ 1048576) (hg : ∀ x ∈ l, ILim x) : Ev (fun k => laws_toInodeS.f k l) (l.map cvI) := by
  have h := laws_toInodeS_loop l hl hg l.length (List.replicate l.length z81) 0 (by omega) (by omega) (by omega) (by simp) (by simp)
  refine Ev.congr (fun k => ?_) h
  unfold laws_toInodeS.f
  rw [if_pos (by omega), if_pos (by omega)]
  rfl

theorem laws_eqInodeS_loop (l : List S81) (hl : l.length ≤ 1048576) (hg : ∀ x ∈ l, ILimT x) (d : Nat) : ∀ (i : Int), 0 ≤ i → i ≤ l.length → (l.length : Int) - i = d → Ev (fun k => laws_eqInodeS.l0 k l l i) true := by
  induction d with
  | zero =>
    intro i h0 h1 hd
    exact Ev.last (fun k => by simp only [laws_eqInodeS.l0]; rw [if_neg (by omega)])
  | succ d ih =>
    intro i h0 h1 hd
    have hw : wrap64 (i + 1) = i + 1 := w64 (by omega) (by omega)
    have h2 : i < (l.length : Int) := by omega
    have hx := eqInodeX_ev (l.getD i.toNat z81) (hg _ (getD_mem (xs := l) (i := i.toNat) z81 (by omega)))
    have key : ∀ k, laws_eqInodeS.l0 (k + 1) l l i = ((fun (k : Nat) (x : S81) => laws_eqInode.f k x.f0 x.f1 x.f2 x.f0 x.f1 x.f2) k (l.getD i.toNat z81)).bind (fun t => if t = true then laws_eqInodeS.l0 k l l (i + 1) else some false) := fun k => by
      simp only [laws_eqInodeS.l0, if_pos h2, if_pos h0, hw]
      rfl
    exact Ev.step key (Ev.bind hx (Ev.congr (fun k => by rw [if_pos rfl]) (ih (i + 1) (by omega) (by omega) (by omega))))
theorem laws_eqInodeS_refl (l : List S81) (hl : l.length ≤ 1048576) (hg : ∀ x ∈ l, ILimT x) : Ev (fun k => laws_eqInodeS.f k l l) true := by
  refine Ev.congr (fun k => ?_) (laws_eqInodeS_loop l hl hg l.length 0 (by omega) (by omega) (by omega))
  unfold laws_eqInodeS.f
  rw [if_pos rfl]


/-- The program's slot of a law's slot. -/
def cvS (x : S96) : S97 := ⟨x.f0, x.f1⟩
def SLim (x : S96) : Prop := x.f0.size ≤ 1048576
theorem szSlot_ev (x : S96) (a : Int) (hg : good96 x) (a0 : 0 ≤ a) (a1 : a ≤ 1048576) : ∃ r, Ev (fun _ => laws_szSlot.f x.f0 x.f1 a) r ∧ r ≤ a ∧ (r < 0 → r = -1) ∧ (0 ≤ r → SLim x) := by
  have hs := hg.1
  have hw : wrap64 (a - (x.f0.size : Int)) = a - x.f0.size := w64 (by omega) (by omega)
  unfold laws_szSlot.f SLim
  rw [hw]
  by_cases h : a - (x.f0.size : Int) < 0
  · exact ⟨-1, Ev.now' fun _ => by rw [if_pos h], by omega, fun _ => rfl, fun h => by omega⟩
  · exact ⟨a - x.f0.size, Ev.now' fun _ => by rw [if_neg h], by omega, by omega, fun _ => by omega⟩
theorem toSlot_ev (x : S96) (_ : True) : Ev (fun _ => laws_toSlot.f x.f0 x.f1) (x.f0, x.f1) := Ev.now _

theorem laws_szSlotS_loop (l : List S96) (hl : l.length ≤ 140737488355328) (hg : ∀ x ∈ l, good96 x) (d : Nat) : ∀ (a i : Int), 0 ≤ a → a ≤ 1048576 → 0 ≤ i → i ≤ l.length → (l.length : Int) - i = d → ∃ r, Ev (fun k => laws_szSlotS.l0 k l a i) r ∧ r ≤ a ∧ (r < 0 → r = -1) ∧ (0 ≤ r → ∀ j : Nat, i ≤ j → j < l.length → SLim (l.getD j z96)) := by
  induction d with
  | zero =>
    intro a i a0 a1 h0 h1 hd
    exact ⟨a, Ev.last (fun k => by simp only [laws_szSlotS.l0]; rw [if_neg (by omega)]), by omega, by omega, fun _ j j0 j1 => by omega⟩
  | succ d ih =>
    intro a i a0 a1 h0 h1 hd
    have hw : wrap64 (i + 1) = i + 1 := w64 (by omega) (by omega)
    obtain ⟨t, ht, t1, t2, t3⟩ := szSlot_ev (l.getD i.toNat z96) a (hg _ (getD_mem (xs := l) (i := i.toNat) z96 (by omega))) a0 a1
    have key : ∀ k, laws_szSlotS.l0 (k + 1) l a i = ((fun (k : Nat) (x : S96) (a : Int) => laws_szSlot.f x.f0 x.f1 a) k (l.getD i.toNat z96) a).bind (fun t => if t < 0 then some (-1) else laws_szSlotS.l0 k l t (i + 1)) := fun k => by
      simp only [laws_szSlotS.l0]
      rw [if_pos (by omega), if_pos h0, hw]
      rfl
    by_cases hneg : t < 0
    · exact ⟨-1, Ev.step key (Ev.bind ht (Ev.now' fun _ => by rw [if_pos hneg])), by omega, fun _ => rfl, fun h => by omega⟩
    · obtain ⟨r, hr, h2, h3, h4⟩ := ih t (i + 1) (by omega) (by omega) (by omega) (by omega) (by omega)
      refine ⟨r, Ev.step key (Ev.bind ht (Ev.congr (fun k => by rw [if_neg hneg]) hr)), by omega, h3, fun hr0 j j0 j1 => ?_⟩
      by_cases ej : j = i.toNat
      · subst ej
        exact t3 (by omega)
      · exact h4 hr0 j (by omega) j1
theorem laws_szSlotS_ev (l : List S96) (a : Int) (hl : l.length ≤ 140737488355328) (hg : ∀ x ∈ l, good96 x) (a0 : 0 ≤ a) (a1 : a ≤ 1048576) : ∃ r, Ev (fun k => laws_szSlotS.f k l a) r ∧ r ≤ a ∧ (r < 0 → r = -1) ∧ (0 ≤ r → l.length ≤ 1048576 ∧ ∀ s ∈ l, SLim s) := by
  have hw : wrap64 (a - (l.length : Int)) = a - l.length := w64 (by omega) (by omega)
  by_cases hneg : a - (l.length : Int) < 0
  · exact ⟨-1, Ev.now' fun k => by unfold laws_szSlotS.f; rw [hw, if_pos hneg], by omega, fun _ => rfl, fun h => by omega⟩
  · obtain ⟨r, hr, h2, h3, h4⟩ := laws_szSlotS_loop l hl hg l.length (a - l.length) 0 (by omega) (by omega) (by omega) (by omega) (by omega)
    refine ⟨r, Ev.congr (fun k => ?_) hr, by omega, h3, fun hr0 => ⟨by omega, fun s hs => ?_⟩⟩
    · unfold laws_szSlotS.f
      rw [hw, if_neg hneg]
    · obtain ⟨j, hj, e⟩ := List.mem_iff_getElem.1 hs
      have := h4 hr0 j (by omega) hj
      rw [List.getD_eq_getElem?_getD, List.getElem?_eq_getElem hj] at this
      rw [← e]
      exact this

theorem laws_toSlotS_loop (l : List S96) (hl : l.length ≤ 1048576) (hg : ∀ x ∈ l, (fun _ => True) x) (d : Nat) : ∀ (y : List S97) (i : Int), 0 ≤ i → i ≤ l.length → (l.length : Int) - i = d → y.length = l.length → y.take i.toNat = (l.map cvS).take i.toNat → Ev (fun k => laws_toSlotS.l0 k l y i) (l.map cvS) := by
  induction d with
  | zero =>
    intro y i h0 h1 hd hy ht
    have e : y = l.map cvS := take_all (by simpa using hy) (by rw [List.length_map, show l.length = i.toNat by omega]; exact ht)
    subst e
    exact Ev.last (fun k => by simp only [laws_toSlotS.l0]; rw [if_neg (by omega)])
  | succ d ih =>
    intro y i h0 h1 hd hy ht
    have hw : wrap64 (i + 1) = i + 1 := w64 (by omega) (by omega)
    have hx := toSlot_ev (l.getD i.toNat z96) (hg _ (getD_mem (xs := l) (i := i.toNat) z96 (by omega)))
    have hs := set_take (l.map cvS) y (cvS z96) i.toNat (by rw [List.length_map]; omega) (by simpa using hy) ht
    have hm : (l.map cvS).getD i.toNat (cvS z96) = cvS (l.getD i.toNat z96) := by simp [List.getD_eq_getElem?_getD, List.getElem?_map, List.getElem?_eq_getElem (show i.toNat < l.length by omega)]
    rw [hm] at hs
    have h2 : i < (l.length : Int) := by omega
    have h3 : i < (y.length : Int) := by omega
    have key : ∀ k, laws_toSlotS.l0 (k + 1) l y i = ((fun (k : Nat) (x : S96) => laws_toSlot.f x.f0 x.f1) k (l.getD i.toNat z96)).bind (fun t => laws_toSlotS.l0 k l (y.set i.toNat ((fun t => (⟨t.1, t.2⟩ : S97)) t)) (i + 1)) := fun k => by
      simp only [laws_toSlotS.l0, if_pos h2, if_pos h0, if_pos h3, hw]
      rfl
    exact Ev.step key (Ev.bind hx (ih (y.set i.toNat (cvS (l.getD i.toNat z96))) (i + 1) (by omega) (by omega) (by omega) (by rw [List.length_set]; exact hy) (by rw [toNat_succ h0]; exact hs)))
theorem laws_toSlotS_ev (l : List S96) (hl : l.length ≤ 1048576) (hg : ∀ x ∈ l, (fun _ => True) x) : Ev (fun k => laws_toSlotS.f k l) (l.map cvS) := by
  have h := laws_toSlotS_loop l hl hg l.length (List.replicate l.length z97) 0 (by omega) (by omega) (by omega) (by simp) (by simp)
  refine Ev.congr (fun k => ?_) h
  unfold laws_toSlotS.f
  rw [if_pos (by omega), if_pos (by omega)]
  rfl


theorem eqSlot_ev (x : S97) (_ : True) : Ev (fun _ => laws_eqSlot.f x.f0 x.f1 x.f0 x.f1) true := Ev.now' fun _ => by
  unfold laws_eqSlot.f
  rw [if_pos rfl, if_pos rfl]

theorem laws_eqSlotS_loop (l : List S97) (hl : l.length ≤ 1048576) (hg : ∀ x ∈ l, (fun _ => True) x) (d : Nat) : ∀ (i : Int), 0 ≤ i → i ≤ l.length → (l.length : Int) - i = d → Ev (fun k => laws_eqSlotS.l0 k l l i) true := by
  induction d with
  | zero =>
    intro i h0 h1 hd
    exact Ev.last (fun k => by simp only [laws_eqSlotS.l0]; rw [if_neg (by omega)])
  | succ d ih =>
    intro i h0 h1 hd
    have hw : wrap64 (i + 1) = i + 1 := w64 (by omega) (by omega)
    have h2 : i < (l.length : Int) := by omega
    have hx := eqSlot_ev (l.getD i.toNat z97) (hg _ (getD_mem (xs := l) (i := i.toNat) z97 (by omega)))
    have key : ∀ k, laws_eqSlotS.l0 (k + 1) l l i = ((fun (k : Nat) (x : S97) => laws_eqSlot.f x.f0 x.f1 x.f0 x.f1) k (l.getD i.toNat z97)).bind (fun t => if t = true then laws_eqSlotS.l0 k l l (i + 1) else some false) := fun k => by
      simp only [laws_eqSlotS.l0, if_pos h2, if_pos h0, hw]
      rfl
    exact Ev.step key (Ev.bind hx (Ev.congr (fun k => by rw [if_pos rfl]) (ih (i + 1) (by omega) (by omega) (by omega))))
theorem laws_eqSlotS_refl (l : List S97) (hl : l.length ≤ 1048576) (hg : ∀ x ∈ l, (fun _ => True) x) : Ev (fun k => laws_eqSlotS.f k l l) true := by
  refine Ev.congr (fun k => ?_) (laws_eqSlotS_loop l hl hg l.length 0 (by omega) (by omega) (by omega))
  unfold laws_eqSlotS.f
  rw [if_pos rfl]


theorem eqBlock_ev (b : Bool) (l : List S97) (t : ByteArray) (hl : l.length ≤ 1048576) : Ev (fun k => laws_eqBlock.f k b l t b l t) true := by
  unfold laws_eqBlock.f
  simp only [bne_self_eq_false, Bool.false_eq_true, if_false]
  exact Ev.bind (laws_eqSlotS_refl l hl (fun _ _ => trivial)) (Ev.now' fun _ => by simp)

theorem szBlock_ev (b : Bool) (l : List S96) (t : ByteArray) (a : Int) (hg : good79 ⟨b, l, t⟩) (a0 : 0 ≤ a) (a1 : a ≤ 1048576) : ∃ r, Ev (fun k => laws_szBlock.f k b l t a) r ∧ r ≤ a ∧ (r < 0 → r = -1) ∧ (0 ≤ r → l.length ≤ 1048576 ∧ (∀ x ∈ l, SLim x) ∧ t.size ≤ 1048576) := by
  obtain ⟨_, ⟨h1, h2⟩, h3⟩ := hg
  simp only at h1 h2 h3
  obtain ⟨r, hr, r1, r2, r3⟩ := laws_szSlotS_ev l a (by omega) h2 a0 a1
  unfold laws_szBlock.f
  by_cases hneg : r < 0
  · exact ⟨-1, Ev.bind hr (Ev.now' fun _ => by rw [if_pos hneg]), by omega, fun _ => rfl, fun h => by omega⟩
  · have hw : wrap64 (r - (t.size : Int)) = r - t.size := w64 (by omega) (by omega)
    by_cases h : r - (t.size : Int) < 0
    · exact ⟨-1, Ev.bind hr (Ev.now' fun _ => by rw [if_neg hneg, hw, if_pos h]), by omega, fun _ => rfl, fun h => by omega⟩
    · exact ⟨r - t.size, Ev.bind hr (Ev.now' fun _ => by rw [if_neg hneg, hw, if_neg h]), by omega, by omega, fun _ => ⟨(r3 (by omega)).1, (r3 (by omega)).2, by omega⟩⟩
theorem toBlock_ev (b : Bool) (l : List S96) (t : ByteArray) (hl : l.length ≤ 1048576) : Ev (fun k => laws_toBlock.f k b l t) (b, l.map cvS, t) := by
  unfold laws_toBlock.f
  exact Ev.bind (laws_toSlotS_ev l hl (fun _ _ => trivial)) (Ev.now _)

/-- The program's block of a law's block. -/
def cvB (x : S79) : S85 := ⟨x.f0, x.f1.map cvS, x.f2⟩
def BLim (x : S79) : Prop := x.f1.length ≤ 1048576 ∧ (∀ y ∈ x.f1, SLim y) ∧ x.f2.size ≤ 1048576
def BLimT (x : S85) : Prop := x.f1.length ≤ 1048576 ∧ (∀ y ∈ x.f1, y.f0.size ≤ 1048576) ∧ x.f2.size ≤ 1048576
theorem szBlockX_ev (x : S79) (a : Int) (hg : good79 x) (a0 : 0 ≤ a) (a1 : a ≤ 1048576) : ∃ r, Ev (fun k => laws_szBlock.f k x.f0 x.f1 x.f2 a) r ∧ r ≤ a ∧ (r < 0 → r = -1) ∧ (0 ≤ r → BLim x) := szBlock_ev x.f0 x.f1 x.f2 a hg a0 a1
theorem toBlockX_ev (x : S79) (h : BLim x) : Ev (fun k => laws_toBlock.f k x.f0 x.f1 x.f2) (x.f0, x.f1.map cvS, x.f2) := toBlock_ev x.f0 x.f1 x.f2 h.1
theorem eqBlockX_ev (x : S85) (h : BLimT x) : Ev (fun k => laws_eqBlock.f k x.f0 x.f1 x.f2 x.f0 x.f1 x.f2) true := eqBlock_ev x.f0 x.f1 x.f2 h.1
theorem BLim_cv (x : S79) (h : BLim x) : BLimT (cvB x) := ⟨by simpa [cvB] using h.1, fun y hy => by
  obtain ⟨z, hz, rfl⟩ := List.mem_map.1 hy
  exact h.2.1 z hz, h.2.2⟩

theorem laws_szBlockS_loop (l : List S79) (hl : l.length ≤ 140737488355328) (hg : ∀ x ∈ l, good79 x) (d : Nat) : ∀ (a i : Int), 0 ≤ a → a ≤ 1048576 → 0 ≤ i → i ≤ l.length → (l.length : Int) - i = d → ∃ r, Ev (fun k => laws_szBlockS.l0 k l a i) r ∧ r ≤ a ∧ (r < 0 → r = -1) ∧ (0 ≤ r → ∀ j : Nat, i ≤ j → j < l.length → BLim (l.getD j z79)) := by
  induction d with
  | zero =>
    intro a i a0 a1 h0 h1 hd
    exact ⟨a, Ev.last (fun k => by simp only [laws_szBlockS.l0]; rw [if_neg (by omega)]), by omega, by omega, fun _ j j0 j1 => by omega⟩
  | succ d ih =>
    intro a i a0 a1 h0 h1 hd
    have hw : wrap64 (i + 1) = i + 1 := w64 (by omega) (by omega)
    obtain ⟨t, ht, t1, t2, t3⟩ := szBlockX_ev (l.getD i.toNat z79) a (hg _ (getD_mem (xs := l) (i := i.toNat) z79 (by omega))) a0 a1
    have key : ∀ k, laws_szBlockS.l0 (k + 1) l a i = ((fun (k : Nat) (x : S79) (a : Int) => laws_szBlock.f k x.f0 x.f1 x.f2 a) k (l.getD i.toNat z79) a).bind (fun t => if t < 0 then some (-1) else laws_szBlockS.l0 k l t (i + 1)) := fun k => by
      simp only [laws_szBlockS.l0]
      rw [if_pos (by omega), if_pos h0, hw]
      rfl
    by_cases hneg : t < 0
    · exact ⟨-1, Ev.step key (Ev.bind ht (Ev.now' fun _ => by rw [if_pos hneg])), by omega, fun _ => rfl, fun h => by omega⟩
    · obtain ⟨r, hr, h2, h3, h4⟩ := ih t (i + 1) (by omega) (by omega) (by omega) (by omega) (by omega)
      refine ⟨r, Ev.step key (Ev.bind ht (Ev.congr (fun k => by rw [if_neg hneg]) hr)), by omega, h3, fun hr0 j j0 j1 => ?_⟩
      by_cases ej : j = i.toNat
      · subst ej
        exact t3 (by omega)
      · exact h4 hr0 j (by omega) j1
theorem laws_szBlockS_ev (l : List S79) (a : Int) (hl : l.length ≤ 140737488355328) (hg : ∀ x ∈ l, good79 x) (a0 : 0 ≤ a) (a1 : a ≤ 1048576) : ∃ r, Ev (fun k => laws_szBlockS.f k l a) r ∧ r ≤ a ∧ (r < 0 → r = -1) ∧ (0 ≤ r → l.length ≤ 1048576 ∧ ∀ s ∈ l, BLim s) := by
  have hw : wrap64 (a - (l.length : Int)) = a - l.length := w64 (by omega) (by omega)
  by_cases hneg : a - (l.length : Int) < 0
  · exact ⟨-1, Ev.now' fun k => by unfold laws_szBlockS.f; rw [hw, if_pos hneg], by omega, fun _ => rfl, fun h => by omega⟩
  · obtain ⟨r, hr, h2, h3, h4⟩ := laws_szBlockS_loop l hl hg l.length (a - l.length) 0 (by omega) (by omega) (by omega) (by omega) (by omega)
    refine ⟨r, Ev.congr (fun k => ?_) hr, by omega, h3, fun hr0 => ⟨by omega, fun s hs => ?_⟩⟩
    · unfold laws_szBlockS.f
      rw [hw, if_neg hneg]
    · obtain ⟨j, hj, e⟩ := List.mem_iff_getElem.1 hs
      have := h4 hr0 j (by omega) hj
      rw [List.getD_eq_getElem?_getD, List.getElem?_eq_getElem hj] at this
      rw [← e]
      exact this

theorem laws_toBlockS_loop (l : List S79) (hl : l.length ≤ 1048576) (hg : ∀ x ∈ l, BLim x) (d : Nat) : ∀ (y : List S85) (i : Int), 0 ≤ i → i ≤ l.length → (l.length : Int) - i = d → y.length = l.length → y.take i.toNat = (l.map cvB).take i.toNat → Ev (fun k => laws_toBlockS.l0 k l y i) (l.map cvB) := by
  induction d with
  | zero =>
    intro y i h0 h1 hd hy ht
    have e : y = l.map cvB := take_all (by simpa using hy) (by rw [List.length_map, show l.length = i.toNat by omega]; exact ht)
    subst e
    exact Ev.last (fun k => by simp only [laws_toBlockS.l0]; rw [if_neg (by omega)])
  | succ d ih =>
    intro y i h0 h1 hd hy ht
    have hw : wrap64 (i + 1) = i + 1 := w64 (by omega) (by omega)
    have hx := toBlockX_ev (l.getD i.toNat z79) (hg _ (getD_mem (xs := l) (i := i.toNat) z79 (by omega)))
    have hs := set_take (l.map cvB) y (cvB z79) i.toNat (by rw [List.length_map]; omega) (by simpa using hy) ht
    have hm : (l.map cvB).getD i.toNat (cvB z79) = cvB (l.getD i.toNat z79) := by simp [List.getD_eq_getElem?_getD, List.getElem?_map, List.getElem?_eq_getElem (show i.toNat < l.length by omega)]
    rw [hm] at hs
    have h2 : i < (l.length : Int) := by omega
    have h3 : i < (y.length : Int) := by omega
    have key : ∀ k, laws_toBlockS.l0 (k + 1) l y i = ((fun (k : Nat) (x : S79) => laws_toBlock.f k x.f0 x.f1 x.f2) k (l.getD i.toNat z79)).bind (fun t => laws_toBlockS.l0 k l (y.set i.toNat ((fun t => (⟨t.1, t.2.1, t.2.2⟩ : S85)) t)) (i + 1)) := fun k => by
      simp only [laws_toBlockS.l0, if_pos h2, if_pos h0, if_pos h3, hw]
      rfl
    exact Ev.step key (Ev.bind hx (ih (y.set i.toNat (cvB (l.getD i.toNat z79))) (i + 1) (by omega) (by omega) (by omega) (by rw [List.length_set]; exact hy) (by rw [toNat_succ h0]; exact hs)))
theorem laws_toBlockS_ev (l : List S79) (hl : l.length ≤ 1048576) (hg : ∀ x ∈ l, BLim x) : Ev (fun k => laws_toBlockS.f k l) (l.map cvB) := by
  have h := laws_toBlockS_loop l hl hg l.length (List.replicate l.length z85) 0 (by omega) (by omega) (by omega) (by simp) (by simp)
  refine Ev.congr (fun k => ?_) h
  unfold laws_toBlockS.f
  rw [if_pos (by omega), if_pos (by omega)]
  rfl

theorem laws_eqBlockS_loop (l : List S85) (hl : l.length ≤ 1048576) (hg : ∀ x ∈ l, BLimT x) (d : Nat) : ∀ (i : Int), 0 ≤ i → i ≤ l.length → (l.length : Int) - i = d → Ev (fun k => laws_eqBlockS.l0 k l l i) true := by
  induction d with
  | zero =>
    intro i h0 h1 hd
    exact Ev.last (fun k => by simp only [laws_eqBlockS.l0]; rw [if_neg (by omega)])
  | succ d ih =>
    intro i h0 h1 hd
    have hw : wrap64 (i + 1) = i + 1 := w64 (by omega) (by omega)
    have h2 : i < (l.length : Int) := by omega
    have hx := eqBlockX_ev (l.getD i.toNat z85) (hg _ (getD_mem (xs := l) (i := i.toNat) z85 (by omega)))
    have key : ∀ k, laws_eqBlockS.l0 (k + 1) l l i = ((fun (k : Nat) (x : S85) => laws_eqBlock.f k x.f0 x.f1 x.f2 x.f0 x.f1 x.f2) k (l.getD i.toNat z85)).bind (fun t => if t = true then laws_eqBlockS.l0 k l l (i + 1) else some false) := fun k => by
      simp only [laws_eqBlockS.l0, if_pos h2, if_pos h0, hw]
      rfl
    exact Ev.step key (Ev.bind hx (Ev.congr (fun k => by rw [if_pos rfl]) (ih (i + 1) (by omega) (by omega) (by omega))))
theorem laws_eqBlockS_refl (l : List S85) (hl : l.length ≤ 1048576) (hg : ∀ x ∈ l, BLimT x) : Ev (fun k => laws_eqBlockS.f k l l) true := by
  refine Ev.congr (fun k => ?_) (laws_eqBlockS_loop l hl hg l.length 0 (by omega) (by omega) (by omega))
  unfold laws_eqBlockS.f
  rw [if_pos rfl]


/-- What is known of a law's disk whose size was told. -/
def DLim (a b : List Bool) (I : List S75) (B : List S79) : Prop := (a.length ≤ 1048576 ∧ b.length ≤ 1048576) ∧ (I.length ≤ 1048576 ∧ ∀ x ∈ I, ILim x) ∧ (B.length ≤ 1048576 ∧ ∀ x ∈ B, BLim x)
theorem szDisk_ev (a b : List Bool) (I : List S75) (B : List S79) (m : Int) (hg : good28 ⟨⟨a, b⟩, I, B⟩) (m0 : 0 ≤ m) (m1 : m ≤ 1048576) : ∃ r, Ev (fun k => laws_szDisk.f k a b I B m) r ∧ r ≤ m ∧ (0 ≤ r → DLim a b I B) := by
  obtain ⟨⟨⟨ha, _⟩, hb, _⟩, ⟨hI, hIg⟩, hB, hBg⟩ := hg
  simp only at ha hb hI hB hIg hBg
  unfold laws_szDisk.f
  obtain ⟨r, hr, r1, r2⟩ := szBits_eq a b m (by omega) (by omega) m0 m1
  simp only [hr, Option.bind_some]
  by_cases h : r < 0
  · exact ⟨-1, Ev.now' fun _ => by rw [if_pos h], by omega, fun h => by omega⟩
  · simp only [if_neg h]
    obtain ⟨q, hq, q1, q2, q3⟩ := laws_szInodeS_ev I r (by omega) hIg (by omega) (by omega)
    by_cases h2 : q < 0
    · exact ⟨-1, Ev.bind hq (Ev.now' fun _ => by rw [if_pos h2]), by omega, fun h => by omega⟩
    · obtain ⟨p, hp, p1, p2, p3⟩ := laws_szBlockS_ev B q (by omega) hBg (by omega) (by omega)
      by_cases h3 : p < 0
      · exact ⟨-1, Ev.bind hq (Ev.congr (fun k => by rw [if_neg h2]) (Ev.bind hp (Ev.now' fun _ => by rw [if_pos h3]))), by omega, fun h => by omega⟩
      · exact ⟨p, Ev.bind hq (Ev.congr (fun k => by rw [if_neg h2]) (Ev.bind hp (Ev.now' fun _ => by rw [if_neg h3]))), by omega, fun _ => ⟨r2 (by omega), q3 (by omega), p3 (by omega)⟩⟩
theorem toDisk_ev (a b : List Bool) (I : List S75) (B : List S79) (h : DLim a b I B) : Ev (fun k => laws_toDisk.f k a b I B) (a, b, I.map cvI, B.map cvB) := by
  obtain ⟨⟨ha, hb⟩, ⟨hI, hi⟩, hB, hb'⟩ := h
  unfold laws_toDisk.f
  exact Ev.bind (toBits_ev a b ha hb) (Ev.bind (laws_toInodeS_ev I hI hi) (Ev.bind (laws_toBlockS_ev B hB hb') (Ev.now _)))
/-- What is known of the program's disk. -/
def DLimT (a b : List Bool) (I : List S81) (B : List S85) : Prop := (a.length ≤ 1048576 ∧ b.length ≤ 1048576) ∧ (I.length ≤ 1048576 ∧ ∀ x ∈ I, ILimT x) ∧ (B.length ≤ 1048576 ∧ ∀ x ∈ B, BLimT x)
theorem DLim_cv {a b : List Bool} {I : List S75} {B : List S79} (h : DLim a b I B) : DLimT a b (I.map cvI) (B.map cvB) := by
  obtain ⟨hab, ⟨hI, hi⟩, hB, hb'⟩ := h
  refine ⟨hab, ⟨by simpa using hI, fun x hx => ?_⟩, by simpa using hB, fun x hx => ?_⟩
  · obtain ⟨y, hy, rfl⟩ := List.mem_map.1 hx
    exact hi y hy
  · obtain ⟨y, hy, rfl⟩ := List.mem_map.1 hx
    exact BLim_cv y (hb' y hy)
theorem eqDisk_ev (a b : List Bool) (I : List S81) (B : List S85) (h : DLimT a b I B) : Ev (fun k => laws_eqDisk.f k a b I B a b I B) true := by
  obtain ⟨⟨ha, hb⟩, ⟨hI, hi⟩, hB, hb'⟩ := h
  unfold laws_eqDisk.f
  exact Ev.bind (eqBits_ev a b ha hb) (Ev.bind (laws_eqInodeS_refl I hI hi) (Ev.bind (laws_eqBlockS_refl B hB hb') (Ev.now _)))

/-- The program's dependency of a law's. -/
def cvE (x : S64) : S50 := ⟨x.f0, x.f1, x.f2, x.f3, x.f4, x.f5, x.f6, x.f7, x.f8, x.f9, x.f10⟩
def EpLim (x : S64) : Prop := x.f10.length ≤ 1048576
def EpLimT (x : S50) : Prop := x.f10.length ≤ 1048576
theorem szDep_ev (x : S64) (a : Int) (hg : good64 x) (a0 : 0 ≤ a) (a1 : a ≤ 1048576) : ∃ r, Ev (fun _ => laws_szDep.f x.f0 x.f1 x.f2 x.f3 x.f4 x.f5 x.f6 x.f7 x.f8 x.f9 x.f10 a) r ∧ r ≤ a ∧ (r < 0 → r = -1) ∧ (0 ≤ r → EpLim x) := by
  obtain ⟨_, _, _, _, _, _, h6, _, _, _, h10, _⟩ := hg
  have hw : wrap64 (a - (x.f6.size : Int)) = a - x.f6.size := w64 (by omega) (by omega)
  unfold laws_szDep.f EpLim
  rw [hw]
  by_cases h : a - (x.f6.size : Int) < 0
  · exact ⟨-1, Ev.now' fun _ => by rw [if_pos h], by omega, fun _ => rfl, fun h => by omega⟩
  · rw [laws_szIntS_eq x.f10 (a - x.f6.size) (by omega) (by omega) (by omega)]
    by_cases h2 : a - (x.f6.size : Int) - x.f10.length < 0
    · exact ⟨-1, Ev.now' fun _ => by rw [if_neg h, if_pos h2]; rfl, by omega, fun _ => rfl, fun h => by omega⟩
    · refine ⟨a - x.f6.size - x.f10.length, Ev.now' fun _ => ?_, by omega, by omega, fun _ => by omega⟩
      rw [if_neg h, if_neg h2]
      simp only [Option.bind_some, if_neg h2]
theorem toDep_ev (x : S64) (h : EpLim x) : Ev (fun k => laws_toDep.f k x.f0 x.f1 x.f2 x.f3 x.f4 x.f5 x.f6 x.f7 x.f8 x.f9 x.f10) (x.f0, x.f1, x.f2, x.f3, x.f4, x.f5, x.f6, x.f7, x.f8, x.f9, x.f10) := by
  unfold laws_toDep.f
  exact Ev.bind (laws_toIntS_ev x.f10 h) (Ev.now _)
theorem eqDep_ev (x : S50) (h : EpLimT x) : Ev (fun k => laws_eqDep.f k x.f0 x.f1 x.f2 x.f3 x.f4 x.f5 x.f6 x.f7 x.f8 x.f9 x.f10 x.f0 x.f1 x.f2 x.f3 x.f4 x.f5 x.f6 x.f7 x.f8 x.f9 x.f10) true := by
  unfold laws_eqDep.f
  simp only [if_true, bne_self_eq_false, Bool.false_eq_true, if_false]
  exact Ev.bind (laws_eqIntS_refl x.f10 h) (Ev.now _)

theorem laws_szDepS_loop (l : List S64) (hl : l.length ≤ 140737488355328) (hg : ∀ x ∈ l, good64 x) (d : Nat) : ∀ (a i : Int), 0 ≤ a → a ≤ 1048576 → 0 ≤ i → i ≤ l.length → (l.length : Int) - i = d → ∃ r, Ev (fun k => laws_szDepS.l0 k l a i) r ∧ r ≤ a ∧ (r < 0 → r = -1) ∧ (0 ≤ r → ∀ j : Nat, i ≤ j → j < l.length → EpLim (l.getD j z64)) := by
  induction d with
  | zero =>
    intro a i a0 a1 h0 h1 hd
    exact ⟨a, Ev.last (fun k => by simp only [laws_szDepS.l0]; rw [if_neg (by omega)]), by omega, by omega, fun _ j j0 j1 => by omega⟩
  | succ d ih =>
    intro a i a0 a1 h0 h1 hd
    have hw : wrap64 (i + 1) = i + 1 := w64 (by omega) (by omega)
    obtain ⟨t, ht, t1, t2, t3⟩ := szDep_ev (l.getD i.toNat z64) a (hg _ (getD_mem (xs := l) (i := i.toNat) z64 (by omega))) a0 a1
    have key : ∀ k, laws_szDepS.l0 (k + 1) l a i = ((fun (k : Nat) (x : S64) (a : Int) => laws_szDep.f x.f0 x.f1 x.f2 x.f3 x.f4 x.f5 x.f6 x.f7 x.f8 x.f9 x.f10 a) k (l.getD i.toNat z64) a).bind (fun t => if t < 0 then some (-1) else laws_szDepS.l0 k l t (i + 1)) := fun k => by
      simp only [laws_szDepS.l0]
      rw [if_pos (by omega), if_pos h0, hw]
      rfl
    by_cases hneg : t < 0
    · exact ⟨-1, Ev.step key (Ev.bind ht (Ev.now' fun _ => by rw [if_pos hneg])), by omega, fun _ => rfl, fun h => by omega⟩
    · obtain ⟨r, hr, h2, h3, h4⟩ := ih t (i + 1) (by omega) (by omega) (by omega) (by omega) (by omega)
      refine ⟨r, Ev.step key (Ev.bind ht (Ev.congr (fun k => by rw [if_neg hneg]) hr)), by omega, h3, fun hr0 j j0 j1 => ?_⟩
      by_cases ej : j = i.toNat
      · subst ej
        exact t3 (by omega)
      · exact h4 hr0 j (by omega) j1
theorem laws_szDepS_ev (l : List S64) (a : Int) (hl : l.length ≤ 140737488355328) (hg : ∀ x ∈ l, good64 x) (a0 : 0 ≤ a) (a1 : a ≤ 1048576) : ∃ r, Ev (fun k => laws_szDepS.f k l a) r ∧ r ≤ a ∧ (r < 0 → r = -1) ∧ (0 ≤ r → l.length ≤ 1048576 ∧ ∀ s ∈ l, EpLim s) := by
  have hw : wrap64 (a - (l.length : Int)) = a - l.length := w64 (by omega) (by omega)
  by_cases hneg : a - (l.length : Int) < 0
  · exact ⟨-1, Ev.now' fun k => by unfold laws_szDepS.f; rw [hw, if_pos hneg], by omega, fun _ => rfl, fun h => by omega⟩
  · obtain ⟨r, hr, h2, h3, h4⟩ := laws_szDepS_loop l hl hg l.length (a - l.length) 0 (by omega) (by omega) (by omega) (by omega) (by omega)
    refine ⟨r, Ev.congr (fun k => ?_) hr, by omega, h3, fun hr0 => ⟨by omega, fun s hs => ?_⟩⟩
    · unfold laws_szDepS.f
      rw [hw, if_neg hneg]
    · obtain ⟨j, hj, e⟩ := List.mem_iff_getElem.1 hs
      have := h4 hr0 j (by omega) hj
      rw [List.getD_eq_getElem?_getD, List.getElem?_eq_getElem hj] at this
      rw [← e]
      exact this

theorem laws_toDepS_loop (l : List S64) (hl : l.length ≤ 1048576) (hg : ∀ x ∈ l, EpLim x) (d : Nat) : ∀ (y : List S50) (i : Int), 0 ≤ i → i ≤ l.length → (l.length : Int) - i = d → y.length = l.length → y.take i.toNat = (l.map cvE).take i.toNat → Ev (fun k => laws_toDepS.l0 k l y i) (l.map cvE) := by
  induction d with
  | zero =>
    intro y i h0 h1 hd hy ht
    have e : y = l.map cvE := take_all (by simpa using hy) (by rw [List.length_map, show l.length = i.toNat by omega]; exact ht)
    subst e
    exact Ev.last (fun k => by simp only [laws_toDepS.l0]; rw [if_neg (by omega)])
  | succ d ih =>
    intro y i h0 h1 hd hy ht
    have hw : wrap64 (i + 1) = i + 1 := w64 (by omega) (by omega)
    have hx := toDep_ev (l.getD i.toNat z64) (hg _ (getD_mem (xs := l) (i := i.toNat) z64 (by omega)))
    have hs := set_take (l.map cvE) y (cvE z64) i.toNat (by rw [List.length_map]; omega) (by simpa using hy) ht
    have hm : (l.map cvE).getD i.toNat (cvE z64) = cvE (l.getD i.toNat z64) := by simp [List.getD_eq_getElem?_getD, List.getElem?_map, List.getElem?_eq_getElem (show i.toNat < l.length by omega)]
    rw [hm] at hs
    have h2 : i < (l.length : Int) := by omega
    have h3 : i < (y.length : Int) := by omega
    have key : ∀ k, laws_toDepS.l0 (k + 1) l y i = ((fun (k : Nat) (x : S64) => laws_toDep.f k x.f0 x.f1 x.f2 x.f3 x.f4 x.f5 x.f6 x.f7 x.f8 x.f9 x.f10) k (l.getD i.toNat z64)).bind (fun t => laws_toDepS.l0 k l (y.set i.toNat ((fun t => (⟨t.1, t.2.1, t.2.2.1, t.2.2.2.1, t.2.2.2.2.1, t.2.2.2.2.2.1, t.2.2.2.2.2.2.1, t.2.2.2.2.2.2.2.1, t.2.2.2.2.2.2.2.2.1, t.2.2.2.2.2.2.2.2.2.1, t.2.2.2.2.2.2.2.2.2.2⟩ : S50)) t)) (i + 1)) := fun k => by
      simp only [laws_toDepS.l0, if_pos h2, if_pos h0, if_pos h3, hw]
      rfl
    exact Ev.step key (Ev.bind hx (ih (y.set i.toNat (cvE (l.getD i.toNat z64))) (i + 1) (by omega) (by omega) (by omega) (by rw [List.length_set]; exact hy) (by rw [toNat_succ h0]; exact hs)))
theorem laws_toDepS_ev (l : List S64) (hl : l.length ≤ 1048576) (hg : ∀ x ∈ l, EpLim x) : Ev (fun k => laws_toDepS.f k l) (l.map cvE) := by
  have h := laws_toDepS_loop l hl hg l.length (List.replicate l.length z50) 0 (by omega) (by omega) (by omega) (by simp) (by simp)
  refine Ev.congr (fun k => ?_) h
  unfold laws_toDepS.f
  rw [if_pos (by omega), if_pos (by omega)]
  rfl

theorem laws_eqDepS_loop (l : List S50) (hl : l.length ≤ 1048576) (hg : ∀ x ∈ l, EpLimT x) (d : Nat) : ∀ (i : Int), 0 ≤ i → i ≤ l.length → (l.length : Int) - i = d → Ev (fun k => laws_eqDepS.l0 k l l i) true := by
  induction d with
  | zero =>
    intro i h0 h1 hd
    exact Ev.last (fun k => by simp only [laws_eqDepS.l0]; rw [if_neg (by omega)])
  | succ d ih =>
    intro i h0 h1 hd
    have hw : wrap64 (i + 1) = i + 1 := w64 (by omega) (by omega)
    have h2 : i < (l.length : Int) := by omega
    have hx := eqDep_ev (l.getD i.toNat z50) (hg _ (getD_mem (xs := l) (i := i.toNat) z50 (by omega)))
    have key : ∀ k, laws_eqDepS.l0 (k + 1) l l i = ((fun (k : Nat) (x : S50) => laws_eqDep.f k x.f0 x.f1 x.f2 x.f3 x.f4 x.f5 x.f6 x.f7 x.f8 x.f9 x.f10 x.f0 x.f1 x.f2 x.f3 x.f4 x.f5 x.f6 x.f7 x.f8 x.f9 x.f10) k (l.getD i.toNat z50)).bind (fun t => if t = true then laws_eqDepS.l0 k l l (i + 1) else some false) := fun k => by
      simp only [laws_eqDepS.l0, if_pos h2, if_pos h0, hw]
      rfl
    exact Ev.step key (Ev.bind hx (Ev.congr (fun k => by rw [if_pos rfl]) (ih (i + 1) (by omega) (by omega) (by omega))))
theorem laws_eqDepS_refl (l : List S50) (hl : l.length ≤ 1048576) (hg : ∀ x ∈ l, EpLimT x) : Ev (fun k => laws_eqDepS.f k l l) true := by
  refine Ev.congr (fun k => ?_) (laws_eqDepS_loop l hl hg l.length 0 (by omega) (by omega) (by omega))
  unfold laws_eqDepS.f
  rw [if_pos rfl]


theorem szMem_ev (a b : List Bool) (I : List S75) (B : List S79) (D : List Bool) (L : List S64) (n : Int) (hg : good31 ⟨⟨⟨a, b⟩, I, B⟩, D, L, n⟩) : ∃ r, Ev (fun k => laws_szMem.f k a b I B D L n 1048576) r ∧ (0 ≤ r → DLim a b I B ∧ D.length ≤ 1048576 ∧ L.length ≤ 1048576 ∧ ∀ x ∈ L, EpLim x) := by
  obtain ⟨hd, ⟨hD, _⟩, ⟨hL, hLg⟩, _⟩ := hg
  simp only at hd hD hL hLg
  unfold laws_szMem.f
  obtain ⟨r, hr, r1, r2⟩ := szDisk_ev a b I B 1048576 hd (by omega) (by omega)
  by_cases h : r < 0
  · exact ⟨-1, Ev.bind hr (Ev.now' fun _ => by rw [if_pos h]), fun h => by omega⟩
  · have hb := laws_szBoolS_eq D r (by omega) (by omega) (by omega)
    by_cases h2 : r - D.length < 0
    · refine ⟨-1, Ev.bind hr (Ev.now' fun _ => ?_), fun h => by omega⟩
      rw [if_neg h, hb, if_pos h2]
      rfl
    · obtain ⟨q, hq, q1, q2, q3⟩ := laws_szDepS_ev L (r - D.length) (by omega) hLg (by omega) (by omega)
      have hmid : ∀ k, (if r < 0 then some (-1) else (laws_szBoolS.f D r).bind fun t => if t < 0 then some (-1) else (laws_szDepS.f k L t).bind fun t => if t < 0 then some (-1) else some t) = (laws_szDepS.f k L (r - D.length)).bind fun t => if t < 0 then some (-1) else some t := fun k => by
        rw [if_neg h, hb, if_neg h2]
        simp only [Option.bind_some, if_neg h2]
      by_cases h3 : q < 0
      · exact ⟨-1, Ev.bind hr (Ev.congr (f := fun k => (laws_szDepS.f k L (r - D.length)).bind fun t => if t < 0 then some (-1) else some t) hmid (Ev.bind hq (Ev.now' fun _ => by rw [if_pos h3]))), fun h => by omega⟩
      · exact ⟨q, Ev.bind hr (Ev.congr (f := fun k => (laws_szDepS.f k L (r - D.length)).bind fun t => if t < 0 then some (-1) else some t) hmid (Ev.bind hq (Ev.now' fun _ => by rw [if_neg h3]))), fun _ => ⟨r2 (by omega), by omega, q3 (by omega)⟩⟩
theorem toMem_ev (a b : List Bool) (I : List S75) (B : List S79) (D : List Bool) (L : List S64) (n : Int) (h : DLim a b I B) (hD : D.length ≤ 1048576) (hL : L.length ≤ 1048576) (hl : ∀ x ∈ L, EpLim x) : Ev (fun k => laws_toMem.f k a b I B D L n) (a, b, I.map cvI, B.map cvB, D, L.map cvE, n) := by
  unfold laws_toMem.f
  exact Ev.bind (toDisk_ev a b I B h) (Ev.bind (laws_toBoolS_ev D hD) (Ev.bind (laws_toDepS_ev L hL hl) (Ev.now _)))
theorem eqMem_ev (a b : List Bool) (I : List S81) (B : List S85) (D : List Bool) (L : List S50) (n : Int) (h : DLimT a b I B) (hD : D.length ≤ 1048576) (hL : L.length ≤ 1048576) (hl : ∀ x ∈ L, EpLimT x) : Ev (fun k => laws_eqMem.f k a b I B D L n a b I B D L n) true := by
  unfold laws_eqMem.f
  refine Ev.bind (eqDisk_ev a b I B h) ?_
  simp only [if_true]
  refine Ev.bind (laws_eqBoolS_refl D hD) ?_
  simp only [if_true]
  exact Ev.bind (laws_eqDepS_refl L hL hl) (Ev.now _)
/-- Whether a dependency names this slot. -/
def named (x : S50) (p q : Int) : Prop := (x.f1 = 2 ∨ x.f1 = 3 ∨ x.f1 = 4) ∧ x.f4 = p ∧ x.f5 = q
instance (x : S50) (p q : Int) : Decidable (named x p q) := by unfold named; infer_instance
/-- The first dependency's number that names the slot; 0 without one. -/
def depF (p q : Int) : List S50 → Int
  | [] => 0
  | x :: r => if named x p q then x.f0 else depF p q r
theorem depF_at (p q : Int) (l : List S50) (i : Nat) (h : i < l.length) : depF p q (l.drop i) = if named (l.getD i z50) p q then (l.getD i z50).f0 else depF p q (l.drop (i + 1)) := by
  rw [List.drop_eq_getElem_cons h, List.getD_eq_getElem?_getD, List.getElem?_eq_getElem h]
  rfl
theorem spec_depat_loop (p q : Int) (a b : List Bool) (I : List S81) (B : List S85) (D : List Bool) (l : List S50) (n : Int) (hl : l.length ≤ 1048576) (d : Nat) : ∀ i : Nat, i ≤ l.length → l.length - i = d → Ev (fun k => spec_DepAt.l0 k p q (i : Int) a b I B D l n) (depF p q (l.drop i)) := by
  induction d with
  | zero =>
    intro i hi hd
    rw [List.drop_of_length_le (by omega)]
    exact Ev.last fun k => by simp only [spec_DepAt.l0]; rw [if_neg (by omega)]; rfl
  | succ d ih =>
    intro i hi hd
    have hw : wrap64 ((i : Int) + 1) = ((i + 1 : Nat) : Int) := by rw [w64 (by omega) (by omega)]; omega
    have e0 : rd_T50 l (i : Int) = l.getD i z50 := rfl
    have hnext := ih (i + 1) (by omega) (by omega)
    have key : ∀ k, spec_DepAt.l0 (k + 1) p q (i : Int) a b I B D l n = if named (l.getD i z50) p q then some (l.getD i z50).f0 else spec_DepAt.l0 k p q ((i + 1 : Nat) : Int) a b I B D l n := fun k => by
      simp only [spec_DepAt.l0, e0, hw, spec_l08Name.f]
      rw [if_pos (by omega), if_pos (by omega)]
      unfold named
      generalize l.getD i z50 = x
      by_cases h2 : x.f1 = 2 <;> by_cases h3 : x.f1 = 3 <;> by_cases h4 : x.f1 = 4 <;> by_cases hp : x.f4 = p <;> by_cases hq : x.f5 = q <;> simp_all
    rw [depF_at p q l i (by omega)]
    by_cases hn : named (l.getD i z50) p q
    · rw [if_pos hn]
      exact Ev.last fun k => by rw [key, if_pos hn]
    · rw [if_neg hn]
      exact Ev.step (fun k => by rw [key, if_neg hn]) hnext
theorem impl_depat_loop (p q : Int) (l : List S50) (hl : l.length ≤ 1048576) (d : Nat) : ∀ i : Nat, i ≤ l.length → l.length - i = d → ∃ t, Ev (fun k => impl_nameDepAt.l0 k p q l (l.length : Int) (i : Int)) t ∧ t.1 = depF p q (l.drop i) := by
  induction d with
  | zero =>
    intro i hi hd
    rw [List.drop_of_length_le (by omega)]
    exact ⟨_, Ev.last fun k => by simp only [impl_nameDepAt.l0]; rw [if_neg (by omega)], rfl⟩
  | succ d ih =>
    intro i hi hd
    have hw : wrap64 ((i : Int) + 1) = ((i + 1 : Nat) : Int) := by rw [w64 (by omega) (by omega)]; omega
    have e0 : rd_T50 l (i : Int) = l.getD i z50 := rfl
    obtain ⟨t, ht, e⟩ := ih (i + 1) (by omega) (by omega)
    have key : ∀ k, impl_nameDepAt.l0 (k + 1) p q l (l.length : Int) (i : Int) = if named (l.getD i z50) p q then some ((l.getD i z50).f0, (l.getD i z50).f1, (l.getD i z50).f2, (l.getD i z50).f3, (l.getD i z50).f4, (l.getD i z50).f5, (l.getD i z50).f6, (l.getD i z50).f7, (l.getD i z50).f8, (l.getD i z50).f9, (l.getD i z50).f10, true) else impl_nameDepAt.l0 k p q l (l.length : Int) ((i + 1 : Nat) : Int) := fun k => by
      simp only [impl_nameDepAt.l0, e0, hw, impl_isNameDep.f]
      rw [if_pos (by omega), if_pos (by omega), if_pos (by omega)]
      unfold named
      generalize l.getD i z50 = x
      by_cases h2 : x.f1 = 2 <;> by_cases h3 : x.f1 = 3 <;> by_cases h4 : x.f1 = 4 <;> by_cases hp : x.f4 = p <;> by_cases hq : x.f5 = q <;> simp_all
    rw [depF_at p q l i (by omega)]
    by_cases hn : named (l.getD i z50) p q
    · refine ⟨_, Ev.last fun k => by rw [key, if_pos hn], ?_⟩
      rw [if_pos hn]
    · refine ⟨t, Ev.step (fun k => by rw [key, if_neg hn]) ht, ?_⟩
      rw [if_neg hn]
      exact e
theorem FnExactDepAt : laws_FnExactDepAt.Pure := by
  intro a b I B D L n p q hg _ _
  unfold laws_FnExactDepAt.f
  obtain ⟨r, hr, hlim⟩ := szMem_ev a b I B D L n hg
  refine Ev.rounds (Ev.bind hr ?_)
  by_cases hneg : r < 0
  · exact Ev.now' fun _ => by rw [if_pos hneg]
  · simp only [if_neg hneg]
    obtain ⟨h, hD, hL, hl⟩ := hlim (by omega)
    have hT := DLim_cv h
    have hL' : (L.map cvE).length ≤ 1048576 := by simpa using hL
    have hl' : ∀ x ∈ L.map cvE, EpLimT x := fun x hx => by
      obtain ⟨y, hy, rfl⟩ := List.mem_map.1 hx
      exact hl y hy
    have hto := toMem_ev a b I B D L n h hD hL hl
    have hs := spec_depat_loop p q a b (I.map cvI) (B.map cvB) D (L.map cvE) n hL' _ 0 (Nat.zero_le _) rfl
    obtain ⟨t, hi, ei⟩ := impl_depat_loop p q (L.map cvE) hL' _ 0 (Nat.zero_le _) rfl
    rw [List.drop_zero] at hs ei
    have hi2 : Ev (fun k => impl_DepAt.f k a b (I.map cvI) (B.map cvB) D (L.map cvE) n p q) (depF p q (L.map cvE)) := by
      unfold impl_DepAt.f impl_nameDepAt.f
      exact Ev.bind hi (Ev.now' fun _ => by rw [ei])
    refine Ev.bind hto (Ev.bind hs (Ev.bind hto (Ev.bind hi2 ?_)))
    simp only [if_true]
    exact Ev.bind hto (Ev.bind (eqMem_ev a b _ _ D _ n hT hD hL' hl') (Ev.now _))
end Go.Proofs.Ytmkcpkhhlbmgcaa.Pure
