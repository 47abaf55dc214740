/- FnExactDeviceOf: what the law's functions answer at every Disk: both DeviceOfs the same device, and the marks end. No condition. (The law's own walk is by hand: the Walk text.) -/
import Derived.Test.YtdnbpapolckklaaPFnExactDeviceOfx18
import Derived.Test.YtdnbpapolckklaaAid
import Derived.Test.YtdnbpapolckklaaMarksFnExactDeviceOf
namespace Go.Proofs.Ytdnbpapolckklaa.Pure
open Go.RowKit Go.Proofs.Ytdnbpapolckklaa.PFnExactDeviceOf Go.Proofs.YtdnbpapolckklaaW.PrintWords Go.Proofs.YtdnbpapolckklaaW.PrintLast Go.Proofs.YtdnbpapolckklaaW.PrintMore Go.Proofs.Ytdnbpapolckklaa.Aid
set_option linter.unusedVariables false
set_option linter.unusedSimpArgs false

theorem laws_szBoolS_eq (l : List (Bool)) (a : Int) (hl : l.length ≤ 140737488355328) (h0 : 0 ≤ a) (h1 : a ≤ 1048576) : laws_szBoolS.f l a = some (if a - l.length < 0 then -1 else a - l.length) := by
  unfold laws_szBoolS.f
  rw [w64 (by omega) (by omega)]
  split <;> rfl

theorem szBits_eq (a b : List Bool) (m : Int) (ha : a.length ≤ 140737488355328) (hb : b.length ≤ 140737488355328) (m0 : 0 ≤ m) (m1 : m ≤ 1048576) : ∃ r, laws_szBits.f a b m = some r ∧ r ≤ m ∧ (0 ≤ r → a.length ≤ 1048576 ∧ b.length ≤ 1048576) := by
  unfold laws_szBits.f
  rw [laws_szBoolS_eq a m (by omega) m0 m1]
  simp only [Option.bind_some]
  by_cases h1 : m - a.length < 0
  · exact ⟨-1, by simp [h1], by omega, fun h => by omega⟩
  · rw [if_neg h1, if_neg h1, laws_szBoolS_eq b _ (by omega) (by omega) (by omega)]
    simp only [Option.bind_some]
    by_cases h2 : m - a.length - b.length < 0
    · exact ⟨-1, by simp [h2], by omega, fun h => by omega⟩
    · exact ⟨m - a.length - b.length, by simp [h2], by omega, fun h => by omega⟩

theorem laws_toBoolS_loop (l : List (Bool)) (hl : l.length ≤ 1048576) (d : Nat) : ∀ (y : List (Bool)) (i : Int), 0 ≤ i → i ≤ l.length → (l.length : Int) - i = d → y.length = l.length → y.take i.toNat = l.take i.toNat → Ev (fun k => laws_toBoolS.l0 k l y i) l := by
  induction d with
  | zero =>
    intro y i h0 h1 hd hy ht
    have e : y = l := take_all hy (by rw [show l.length = i.toNat by omega]; exact ht)
    subst e
    exact Ev.last (fun k => by simp only [laws_toBoolS.l0]; rw [if_neg (by omega)])
  | succ d ih =>
    intro y i h0 h1 hd hy ht
    have hw : wrap64 (i + 1) = i + 1 := w64 (by omega) (by omega)
    have hs := set_take l y false i.toNat (by omega) hy ht
    refine Ev.step (fun k => ?_) (ih (y.set i.toNat (l.getD i.toNat false)) (i + 1) (by omega) (by omega) (by omega) (by rw [List.length_set]; exact hy) (by rw [toNat_succ h0]; exact hs))
    simp only [laws_toBoolS.l0]
    rw [if_pos (by omega), if_pos h0, if_pos (by omega), hw]
    rfl
theorem laws_toBoolS_ev (l : List (Bool)) (hl : l.length ≤ 1048576) : Ev (fun k => laws_toBoolS.f k l) l := by
  have h := laws_toBoolS_loop l hl l.length (List.replicate l.length false) 0 (by omega) (by omega) (by omega) (by simp) (by simp)
  refine Ev.congr (fun k => ?_) h
  unfold laws_toBoolS.f
  rw [if_pos (by omega), if_pos (by omega)]
  rfl

theorem toBits_ev (a b : List Bool) (ha : a.length ≤ 1048576) (hb : b.length ≤ 1048576) : Ev (fun k => laws_toBits.f k a b) (a, b) := by
  unfold laws_toBits.f
  exact Ev.bind (laws_toBoolS_ev a ha) (Ev.bind (laws_toBoolS_ev b hb) (Ev.now _))

theorem laws_eqBoolS_loop (l : List (Bool)) (hl : l.length ≤ 1048576) (d : Nat) : ∀ (i : Int), 0 ≤ i → i ≤ l.length → (l.length : Int) - i = d → Ev (fun k => laws_eqBoolS.l0 k l l i) true := by
  induction d with
  | zero =>
    intro i h0 h1 hd
    exact Ev.last (fun k => by simp only [laws_eqBoolS.l0]; rw [if_neg (by omega)])
  | succ d ih =>
    intro i h0 h1 hd
    have hw : wrap64 (i + 1) = i + 1 := w64 (by omega) (by omega)
    refine Ev.step (fun k => ?_) (ih (i + 1) (by omega) (by omega) (by omega))
    simp only [laws_eqBoolS.l0]
    rw [if_pos (by omega), if_pos h0, if_pos (by omega), hw]
    simp
theorem laws_eqBoolS_refl (l : List (Bool)) (hl : l.length ≤ 1048576) : Ev (fun k => laws_eqBoolS.f k l l) true := by
  refine Ev.congr (fun k => ?_) (laws_eqBoolS_loop l hl l.length 0 (by omega) (by omega) (by omega))
  unfold laws_eqBoolS.f
  rw [if_pos rfl]

theorem eqBits_ev (a b : List Bool) (ha : a.length ≤ 1048576) (hb : b.length ≤ 1048576) : Ev (fun k => laws_eqBits.f k a b a b) true := by
  unfold laws_eqBits.f
  exact Ev.bind (laws_eqBoolS_refl a ha) (Ev.bind (laws_eqBoolS_refl b hb) (Ev.now _))

theorem laws_szIntS_eq (l : List (Int)) (a : Int) (hl : l.length ≤ 140737488355328) (h0 : 0 ≤ a) (h1 : a ≤ 1048576) : laws_szIntS.f l a = some (if a - l.length < 0 then -1 else a - l.length) := by
  unfold laws_szIntS.f
  rw [w64 (by omega) (by omega)]
  split <;> rfl

theorem szInode_eq (x y : Int) (l : List Int) (a : Int) (hl : l.length ≤ 140737488355328) (h0 : 0 ≤ a) (h1 : a ≤ 1048576) : laws_szInode.f x y l a = some (if a - l.length < 0 then -1 else a - l.length) := by
  unfold laws_szInode.f
  rw [laws_szIntS_eq l a hl h0 h1]
  simp only [Option.bind_some]
  by_cases h : a - (l.length : Int) < 0
  · simp [h]
  · simp [h]

theorem laws_toIntS_loop (l : List (Int)) (hl : l.length ≤ 1048576) (d : Nat) : ∀ (y : List (Int)) (i : Int), 0 ≤ i → i ≤ l.length → (l.length : Int) - i = d → y.length = l.length → y.take i.toNat = l.take i.toNat → Ev (fun k => laws_toIntS.l0 k l y i) l := by
  induction d with
  | zero =>
    intro y i h0 h1 hd hy ht
    have e : y = l := take_all hy (by rw [show l.length = i.toNat by omega]; exact ht)
    subst e
    exact Ev.last (fun k => by simp only [laws_toIntS.l0]; rw [if_neg (by omega)])
  | succ d ih =>
    intro y i h0 h1 hd hy ht
    have hw : wrap64 (i + 1) = i + 1 := w64 (by omega) (by omega)
    have hs := set_take l y 0 i.toNat (by omega) hy ht
    refine Ev.step (fun k => ?_) (ih (y.set i.toNat (l.getD i.toNat 0)) (i + 1) (by omega) (by omega) (by omega) (by rw [List.length_set]; exact hy) (by rw [toNat_succ h0]; exact hs))
    simp only [laws_toIntS.l0]
    rw [if_pos (by omega), if_pos h0, if_pos (by omega), hw]
    rfl
theorem laws_toIntS_ev (l : List (Int)) (hl : l.length ≤ 1048576) : Ev (fun k => laws_toIntS.f k l) l := by
  have h := laws_toIntS_loop l hl l.length (List.replicate l.length 0) 0 (by omega) (by omega) (by omega) (by simp) (by simp)
  refine Ev.congr (fun k => ?_) h
  unfold laws_toIntS.f
  rw [if_pos (by omega), if_pos (by omega)]
  rfl

theorem toInode_ev (a b : Int) (l : List Int) (hl : l.length ≤ 1048576) : Ev (fun k => laws_toInode.f k a b l) (a, b, l) := by
  unfold laws_toInode.f
  exact Ev.bind (laws_toIntS_ev l hl) (Ev.now _)

theorem laws_eqIntS_loop (l : List (Int)) (hl : l.length ≤ 1048576) (d : Nat) : ∀ (i : Int), 0 ≤ i → i ≤ l.length → (l.length : Int) - i = d → Ev (fun k => laws_eqIntS.l0 k l l i) true := by
  induction d with
  | zero =>
    intro i h0 h1 hd
    exact Ev.last (fun k => by simp only [laws_eqIntS.l0]; rw [if_neg (by omega)])
  | succ d ih =>
    intro i h0 h1 hd
    have hw : wrap64 (i + 1) = i + 1 := w64 (by omega) (by omega)
    refine Ev.step (fun k => ?_) (ih (i + 1) (by omega) (by omega) (by omega))
    simp only [laws_eqIntS.l0]
    rw [if_pos (by omega), if_pos h0, if_pos (by omega), hw]
    simp
theorem laws_eqIntS_refl (l : List (Int)) (hl : l.length ≤ 1048576) : Ev (fun k => laws_eqIntS.f k l l) true := by
  refine Ev.congr (fun k => ?_) (laws_eqIntS_loop l hl l.length 0 (by omega) (by omega) (by omega))
  unfold laws_eqIntS.f
  rw [if_pos rfl]

theorem eqInode_ev (a b : Int) (l : List Int) (hl : l.length ≤ 1048576) : Ev (fun k => laws_eqInode.f k a b l a b l) true := by
  unfold laws_eqInode.f
  simp only [if_true]
  exact Ev.bind (laws_eqIntS_refl l hl) (Ev.now _)


/-- The program's inode of a law's inode. -/
def cvI (x : S142) : S105 := ⟨x.f0, x.f1, x.f2⟩
def ILim (x : S142) : Prop := x.f2.length ≤ 1048576
def ILimT (x : S105) : Prop := x.f2.length ≤ 1048576
theorem szInode_ev (x : S142) (a : Int) (hg : good142 x) (a0 : 0 ≤ a) (a1 : a ≤ 1048576) : ∃ r, Ev (fun _ => laws_szInode.f x.f0 x.f1 x.f2 a) r ∧ r ≤ a ∧ (r < 0 → r = -1) ∧ (0 ≤ r → ILim x) := by
  obtain ⟨_, _, h, _⟩ := hg
  rw [szInode_eq x.f0 x.f1 x.f2 a (by omega) a0 a1]
  unfold ILim
  split
  · exact ⟨-1, Ev.now _, by omega, fun _ => rfl, fun h => by omega⟩
  · exact ⟨_, Ev.now _, by omega, fun h => by omega, fun _ => by omega⟩
theorem toInodeX_ev (x : S142) (h : ILim x) : Ev (fun k => laws_toInode.f k x.f0 x.f1 x.f2) (x.f0, x.f1, x.f2) := toInode_ev x.f0 x.f1 x.f2 h
theorem eqInodeX_ev (x : S105) (h : ILimT x) : Ev (fun k => laws_eqInode.f k x.f0 x.f1 x.f2 x.f0 x.f1 x.f2) true := eqInode_ev x.f0 x.f1 x.f2 h

theorem laws_szInodeS_loop (l : List S142) (hl : l.length ≤ 140737488355328) (hg : ∀ x ∈ l, good142 x) (d : Nat) : ∀ (a i : Int), 0 ≤ a → a ≤ 1048576 → 0 ≤ i → i ≤ l.length → (l.length : Int) - i = d → ∃ r, Ev (fun k => laws_szInodeS.l0 k l a i) r ∧ r ≤ a ∧ (r < 0 → r = -1) ∧ (0 ≤ r → ∀ j : Nat, i ≤ j → j < l.length → ILim (l.getD j z142)) := by
  induction d with
  | zero =>
    intro a i a0 a1 h0 h1 hd
    exact ⟨a, Ev.last (fun k => by simp only [laws_szInodeS.l0]; rw [if_neg (by omega)]), by omega, by omega, fun _ j j0 j1 => by omega⟩
  | succ d ih =>
    intro a i a0 a1 h0 h1 hd
    have hw : wrap64 (i + 1) = i + 1 := w64 (by omega) (by omega)
    obtain ⟨t, ht, t1, t2, t3⟩ := szInode_ev (l.getD i.toNat z142) a (hg _ (getD_mem (xs := l) (i := i.toNat) z142 (by omega))) a0 a1
    have key : ∀ k, laws_szInodeS.l0 (k + 1) l a i = ((fun (k : Nat) (x : S142) (a : Int) => laws_szInode.f x.f0 x.f1 x.f2 a) k (l.getD i.toNat z142) a).bind (fun t => if t < 0 then some (-1) else laws_szInodeS.l0 k l t (i + 1)) := fun k => by
      simp only [laws_szInodeS.l0]
      rw [if_pos (by omega), if_pos h0, hw]
      rfl
    by_cases hneg : t < 0
    · exact ⟨-1, Ev.step key (Ev.bind ht (Ev.now' fun _ => by rw [if_pos hneg])), by omega, fun _ => rfl, fun h => by omega⟩
    · obtain ⟨r, hr, h2, h3, h4⟩ := ih t (i + 1) (by omega) (by omega) (by omega) (by omega) (by omega)
      refine ⟨r, Ev.step key (Ev.bind ht (Ev.congr (fun k => by rw [if_neg hneg]) hr)), by omega, h3, fun hr0 j j0 j1 => ?_⟩
      by_cases ej : j = i.toNat
      · subst ej
        exact t3 (by omega)
      · exact h4 hr0 j (by omega) j1
theorem laws_szInodeS_ev (l : List S142) (a : Int) (hl : l.length ≤ 140737488355328) (hg : ∀ x ∈ l, good142 x) (a0 : 0 ≤ a) (a1 : a ≤ 1048576) : ∃ r, Ev (fun k => laws_szInodeS.f k l a) r ∧ r ≤ a ∧ (r < 0 → r = -1) ∧ (0 ≤ r → l.length ≤ 1048576 ∧ ∀ s ∈ l, ILim s) := by
  have hw : wrap64 (a - (l.length : Int)) = a - l.length := w64 (by omega) (by omega)
  by_cases hneg : a - (l.length : Int) < 0
  · exact ⟨-1, Ev.now' fun k => by unfold laws_szInodeS.f; rw [hw, if_pos hneg], by omega, fun _ => rfl, fun h => by omega⟩
  · obtain ⟨r, hr, h2, h3, h4⟩ := laws_szInodeS_loop l hl hg l.length (a - l.length) 0 (by omega) (by omega) (by omega) (by omega) (by omega)
    refine ⟨r, Ev.congr (fun k => ?_) hr, by omega, h3, fun hr0 => ⟨by omega, fun s hs => ?_⟩⟩
    · unfold laws_szInodeS.f
      rw [hw, if_neg hneg]
    · obtain ⟨j, hj, e⟩ := List.mem_iff_getElem.1 hs
      have := h4 hr0 j (by omega) hj
      rw [List.getD_eq_getElem?_getD, List.getElem?_eq_getElem hj] at this
      rw [← e]
      exact this

theorem laws_toInodeS_loop (l : List S142) (hl : l.length ≤ 1048576) (hg : ∀ x ∈ l, ILim x) (d : Nat) : ∀ (y : List S105) (i : Int), 0 ≤ i → i ≤ l.length → (l.length : Int) - i = d → y.length = l.length → y.take i.toNat = (l.map cvI).take i.toNat → Ev (fun k => laws_toInodeS.l0 k l y i) (l.map cvI) := by
  induction d with
  | zero =>
    intro y i h0 h1 hd hy ht
    have e : y = l.map cvI := take_all (by simpa using hy) (by rw [List.length_map, show l.length = i.toNat by omega]; exact ht)
    subst e
    exact Ev.last (fun k => by simp only [laws_toInodeS.l0]; rw [if_neg (by omega)])
  | succ d ih =>
    intro y i h0 h1 hd hy ht
    have hw : wrap64 (i + 1) = i + 1 := w64 (by omega) (by omega)
    have hx := toInodeX_ev (l.getD i.toNat z142) (hg _ (getD_mem (xs := l) (i := i.toNat) z142 (by omega)))
    have hs := set_take (l.map cvI) y (cvI z142) i.toNat (by rw [List.length_map]; omega) (by simpa using hy) ht
    have hm : (l.map cvI).getD i.toNat (cvI z142) = cvI (l.getD i.toNat z142) := by simp [List.getD_eq_getElem?_getD, List.getElem?_map, List.getElem?_eq_getElem (show i.toNat < l.length by omega)]
    rw [hm] at hs
    have h2 : i < (l.length : Int) := by omega
    have h3 : i < (y.length : Int) := by omega
    have key : ∀ k, laws_toInodeS.l0 (k + 1) l y i = ((fun (k : Nat) (x : S142) => laws_toInode.f k x.f0 x.f1 x.f2) k (l.getD i.toNat z142)).bind (fun t => laws_toInodeS.l0 k l (y.set i.toNat ((fun t => (⟨t.1, t.2.1, t.2.2⟩ : S105)) t)) (i + 1)) := fun k => by
      simp only [laws_toInodeS.l0, if_pos h2, if_pos h0, if_pos h3, hw]
      rfl
    exact Ev.step key (Ev.bind hx (ih (y.set i.toNat (cvI (l.getD i.toNat z142))) (i + 1) (by omega) (by omega) (by omega) (by rw [List.length_set]; exact hy) (by rw [toNat_succ h0]; exact hs)))
theorem laws_toInodeS_ev (l : List S142) (hl : l.length ≤ 1048576) (hg : ∀ x ∈ l, ILim x) : Ev (fun k => laws_toInodeS.f k l) (l.map cvI) := by
  have h := laws_toInodeS_loop l hl hg l.length (List.replicate l.length z105) 0 (by omega) (by omega) (by omega) (by simp) (by simp)
  refine Ev.congr (fun k => ?_) h
  unfold laws_toInodeS.f
  rw [if_pos (by omega), if_pos (by omega)]
  rfl

theorem laws_eqInodeS_loop (l : List S105) (hl : l.length ≤ 1048576) (hg : ∀ x ∈ l, ILimT x) (d : Nat) : ∀ (i : Int), 0 ≤ i → i ≤ l.length → (l.length : Int) - i = d → Ev (fun k => laws_eqInodeS.l0 k l l i) true := by
  induction d with
  | zero =>
    intro i h0 h1 hd
    exact Ev.last (fun k => by simp only [laws_eqInodeS.l0]; rw [if_neg (by omega)])
  | succ d ih =>
    intro i h0 h1 hd
    have hw : wrap64 (i + 1) = i + 1 := w64 (by omega) (by omega)
    have h2 : i < (l.length : Int) := by omega
    have hx := eqInodeX_ev (l.getD i.toNat z105) (hg _ (getD_mem (xs := l) (i := i.toNat) z105 (by omega)))
    have key : ∀ k, laws_eqInodeS.l0 (k + 1) l l i = ((fun (k : Nat) (x : S105) => laws_eqInode.f k x.f0 x.f1 x.f2 x.f0 x.f1 x.f2) k (l.getD i.toNat z105)).bind (fun t => if t = true then laws_eqInodeS.l0 k l l (i + 1) else some false) := fun k => by
      simp only [laws_eqInodeS.l0, if_pos h2, if_pos h0, hw]
      rfl
    exact Ev.step key (Ev.bind hx (Ev.congr (fun k => by rw [if_pos rfl]) (ih (i + 1) (by omega) (by omega) (by omega))))
theorem laws_eqInodeS_refl (l : List S105) (hl : l.length ≤ 1048576) (hg : ∀ x ∈ l, ILimT x) : Ev (fun k => laws_eqInodeS.f k l l) true := by
  refine Ev.congr (fun k => ?_) (laws_eqInodeS_loop l hl hg l.length 0 (by omega) (by omega) (by omega))
  unfold laws_eqInodeS.f
  rw [if_pos rfl]


/-- The program's slot of a law's slot. -/
def cvS (x : S151) : S69 := ⟨x.f0, x.f1⟩
def SLim (x : S151) : Prop := x.f0.size ≤ 1048576
theorem szSlot_ev (x : S151) (a : Int) (hg : good151 x) (a0 : 0 ≤ a) (a1 : a ≤ 1048576) : ∃ r, Ev (fun _ => laws_szSlot.f x.f0 x.f1 a) r ∧ r ≤ a ∧ (r < 0 → r = -1) ∧ (0 ≤ r → SLim x) := by
  have hs := hg.1
  have hw : wrap64 (a - (x.f0.size : Int)) = a - x.f0.size := w64 (by omega) (by omega)
  unfold laws_szSlot.f SLim
  rw [hw]
  by_cases h : a - (x.f0.size : Int) < 0
  · exact ⟨-1, Ev.now' fun _ => by rw [if_pos h], by omega, fun _ => rfl, fun h => by omega⟩
  · exact ⟨a - x.f0.size, Ev.now' fun _ => by rw [if_neg h], by omega, by omega, fun _ => by omega⟩
theorem toSlot_ev (x : S151) (_ : True) : Ev (fun _ => laws_toSlot.f x.f0 x.f1) (x.f0, x.f1) := Ev.now _

theorem laws_szSlotS_loop (l : List S151) (hl : l.length ≤ 140737488355328) (hg : ∀ x ∈ l, good151 x) (d : Nat) : ∀ (a i : Int), 0 ≤ a → a ≤ 1048576 → 0 ≤ i → i ≤ l.length → (l.length : Int) - i = d → ∃ r, Ev (fun k => laws_szSlotS.l0 k l a i) r ∧ r ≤ a ∧ (r < 0 → r = -1) ∧ (0 ≤ r → ∀ j : Nat, i ≤ j → j < l.length → SLim (l.getD j z151)) := by
  induction d with
  | zero =>
    intro a i a0 a1 h0 h1 hd
    exact ⟨a, Ev.last (fun k => by simp only [laws_szSlotS.l0]; rw [if_neg (by omega)]), by omega, by omega, fun _ j j0 j1 => by omega⟩
  | succ d ih =>
    intro a i a0 a1 h0 h1 hd
    have hw : wrap64 (i + 1) = i + 1 := w64 (by omega) (by omega)
    obtain ⟨t, ht, t1, t2, t3⟩ := szSlot_ev (l.getD i.toNat z151) a (hg _ (getD_mem (xs := l) (i := i.toNat) z151 (by omega))) a0 a1
    have key : ∀ k, laws_szSlotS.l0 (k + 1) l a i = ((fun (k : Nat) (x : S151) (a : Int) => laws_szSlot.f x.f0 x.f1 a) k (l.getD i.toNat z151) a).bind (fun t => if t < 0 then some (-1) else laws_szSlotS.l0 k l t (i + 1)) := fun k => by
      simp only [laws_szSlotS.l0]
      rw [if_pos (by omega), if_pos h0, hw]
      rfl
    by_cases hneg : t < 0
    · exact ⟨-1, Ev.step key (Ev.bind ht (Ev.now' fun _ => by rw [if_pos hneg])), by omega, fun _ => rfl, fun h => by omega⟩
    · obtain ⟨r, hr, h2, h3, h4⟩ := ih t (i + 1) (by omega) (by omega) (by omega) (by omega) (by omega)
      refine ⟨r, Ev.step key (Ev.bind ht (Ev.congr (fun k => by rw [if_neg hneg]) hr)), by omega, h3, fun hr0 j j0 j1 => ?_⟩
      by_cases ej : j = i.toNat
      · subst ej
        exact t3 (by omega)
      · exact h4 hr0 j (by omega) j1
theorem laws_szSlotS_ev (l : List S151) (a : Int) (hl : l.length ≤ 140737488355328) (hg : ∀ x ∈ l, good151 x) (a0 : 0 ≤ a) (a1 : a ≤ 1048576) : ∃ r, Ev (fun k => laws_szSlotS.f k l a) r ∧ r ≤ a ∧ (r < 0 → r = -1) ∧ (0 ≤ r → l.length ≤ 1048576 ∧ ∀ s ∈ l, SLim s) := by
  have hw : wrap64 (a - (l.length : Int)) = a - l.length := w64 (by omega) (by omega)
  by_cases hneg : a - (l.length : Int) < 0
  · exact ⟨-1, Ev.now' fun k => by unfold laws_szSlotS.f; rw [hw, if_pos hneg], by omega, fun _ => rfl, fun h => by omega⟩
  · obtain ⟨r, hr, h2, h3, h4⟩ := laws_szSlotS_loop l hl hg l.length (a - l.length) 0 (by omega) (by omega) (by omega) (by omega) (by omega)
    refine ⟨r, Ev.congr (fun k => ?_) hr, by omega, h3, fun hr0 => ⟨by omega, fun s hs => ?_⟩⟩
    · unfold laws_szSlotS.f
      rw [hw, if_neg hneg]
    · obtain ⟨j, hj, e⟩ := List.mem_iff_getElem.1 hs
      have := h4 hr0 j (by omega) hj
      rw [List.getD_eq_getElem?_getD, List.getElem?_eq_getElem hj] at this
      rw [← e]
      exact this

theorem laws_toSlotS_loop (l : List S151) (hl : l.length ≤ 1048576) (hg : ∀ x ∈ l, (fun _ => True) x) (d : Nat) : ∀ (y : List S69) (i : Int), 0 ≤ i → i ≤ l.length → (l.length : Int) - i = d → y.length = l.length → y.take i.toNat = (l.map cvS).take i.toNat → Ev (fun k => laws_toSlotS.l0 k l y i) (l.map cvS) := by
  induction d with
  | zero =>
    intro y i h0 h1 hd hy ht
    have e : y = l.map cvS := take_all (by simpa using hy) (by rw [List.length_map, show l.length = i.toNat by omega]; exact ht)
    subst e
    exact Ev.last (fun k => by simp only [laws_toSlotS.l0]; rw [if_neg (by omega)])
  | succ d ih =>
    intro y i h0 h1 hd hy ht
    have hw : wrap64 (i + 1) = i + 1 := w64 (by omega) (by omega)
    have hx := toSlot_ev (l.getD i.toNat z151) (hg _ (getD_mem (xs := l) (i := i.toNat) z151 (by omega)))
    have hs := set_take (l.map cvS) y (cvS z151) i.toNat (by rw [List.length_map]; omega) (by simpa using hy) ht
    have hm : (l.map cvS).getD i.toNat (cvS z151) = cvS (l.getD i.toNat z151) := by simp [List.getD_eq_getElem?_getD, List.getElem?_map, List.getElem?_eq_getElem (show i.toNat < l.length by omega)]
    rw [hm] at hs
    have h2 : i < (l.length : Int) := by omega
    have h3 : i < (y.length : Int) := by omega
    have key : ∀ k, laws_toSlotS.l0 (k + 1) l y i = ((fun (k : Nat) (x : S151) => laws_toSlot.f x.f0 x.f1) k (l.getD i.toNat z151)).bind (fun t => laws_toSlotS.l0 k l (y.set i.toNat ((fun t => (⟨t.1, t.2⟩ : S69)) t)) (i + 1)) := fun k => by
      simp only [laws_toSlotS.l0, if_pos h2, if_pos h0, if_pos h3, hw]
      rfl
    exact Ev.step key (Ev.bind hx (ih (y.set i.toNat (cvS (l.getD i.toNat z151))) (i + 1) (by omega) (by omega) (by omega) (by rw [List.length_set]; exact hy) (by rw [toNat_succ h0]; exact hs)))
theorem laws_toSlotS_ev (l : List S151) (hl : l.length ≤ 1048576) (hg : ∀ x ∈ l, (fun _ => True) x) : Ev (fun k => laws_toSlotS.f k l) (l.map cvS) := by
  have h := laws_toSlotS_loop l hl hg l.length (List.replicate l.length z69) 0 (by omega) (by omega) (by omega) (by simp) (by simp)
  refine Ev.congr (fun k => ?_) h
  unfold laws_toSlotS.f
  rw [if_pos (by omega), if_pos (by omega)]
  rfl


theorem eqSlot_ev (x : S69) (_ : True) : Ev (fun _ => laws_eqSlot.f x.f0 x.f1 x.f0 x.f1) true := Ev.now' fun _ => by
  unfold laws_eqSlot.f
  rw [if_pos rfl, if_pos rfl]

theorem laws_eqSlotS_loop (l : List S69) (hl : l.length ≤ 1048576) (hg : ∀ x ∈ l, (fun _ => True) x) (d : Nat) : ∀ (i : Int), 0 ≤ i → i ≤ l.length → (l.length : Int) - i = d → Ev (fun k => laws_eqSlotS.l0 k l l i) true := by
  induction d with
  | zero =>
    intro i h0 h1 hd
    exact Ev.last (fun k => by simp only [laws_eqSlotS.l0]; rw [if_neg (by omega)])
  | succ d ih =>
    intro i h0 h1 hd
    have hw : wrap64 (i + 1) = i + 1 := w64 (by omega) (by omega)
    have h2 : i < (l.length : Int) := by omega
    have hx := eqSlot_ev (l.getD i.toNat z69) (hg _ (getD_mem (xs := l) (i := i.toNat) z69 (by omega)))
    have key : ∀ k, laws_eqSlotS.l0 (k + 1) l l i = ((fun (k : Nat) (x : S69) => laws_eqSlot.f x.f0 x.f1 x.f0 x.f1) k (l.getD i.toNat z69)).bind (fun t => if t = true then laws_eqSlotS.l0 k l l (i + 1) else some false) := fun k => by
      simp only [laws_eqSlotS.l0, if_pos h2, if_pos h0, hw]
      rfl
    exact Ev.step key (Ev.bind hx (Ev.congr (fun k => by rw [if_pos rfl]) (ih (i + 1) (by omega) (by omega) (by omega))))
theorem laws_eqSlotS_refl (l : List S69) (hl : l.length ≤ 1048576) (hg : ∀ x ∈ l, (fun _ => True) x) : Ev (fun k => laws_eqSlotS.f k l l) true := by
  refine Ev.congr (fun k => ?_) (laws_eqSlotS_loop l hl hg l.length 0 (by omega) (by omega) (by omega))
  unfold laws_eqSlotS.f
  rw [if_pos rfl]


theorem eqBlock_ev (b : Bool) (l : List S69) (t : ByteArray) (hl : l.length ≤ 1048576) : Ev (fun k => laws_eqBlock.f k b l t b l t) true := by
  unfold laws_eqBlock.f
  simp only [bne_self_eq_false, Bool.false_eq_true, if_false]
  exact Ev.bind (laws_eqSlotS_refl l hl (fun _ _ => trivial)) (Ev.now' fun _ => by simp)

theorem szBlock_ev (b : Bool) (l : List S151) (t : ByteArray) (a : Int) (hg : good54 ⟨b, l, t⟩) (a0 : 0 ≤ a) (a1 : a ≤ 1048576) : ∃ r, Ev (fun k => laws_szBlock.f k b l t a) r ∧ r ≤ a ∧ (r < 0 → r = -1) ∧ (0 ≤ r → l.length ≤ 1048576 ∧ (∀ x ∈ l, SLim x) ∧ t.size ≤ 1048576) := by
  obtain ⟨_, ⟨h1, h2⟩, h3⟩ := hg
  simp only at h1 h2 h3
  obtain ⟨r, hr, r1, r2, r3⟩ := laws_szSlotS_ev l a (by omega) h2 a0 a1
  unfold laws_szBlock.f
  by_cases hneg : r < 0
  · exact ⟨-1, Ev.bind hr (Ev.now' fun _ => by rw [if_pos hneg]), by omega, fun _ => rfl, fun h => by omega⟩
  · have hw : wrap64 (r - (t.size : Int)) = r - t.size := w64 (by omega) (by omega)
    by_cases h : r - (t.size : Int) < 0
    · exact ⟨-1, Ev.bind hr (Ev.now' fun _ => by rw [if_neg hneg, hw, if_pos h]), by omega, fun _ => rfl, fun h => by omega⟩
    · exact ⟨r - t.size, Ev.bind hr (Ev.now' fun _ => by rw [if_neg hneg, hw, if_neg h]), by omega, by omega, fun _ => ⟨(r3 (by omega)).1, (r3 (by omega)).2, by omega⟩⟩
theorem toBlock_ev (b : Bool) (l : List S151) (t : ByteArray) (hl : l.length ≤ 1048576) : Ev (fun k => laws_toBlock.f k b l t) (b, l.map cvS, t) := by
  unfold laws_toBlock.f
  exact Ev.bind (laws_toSlotS_ev l hl (fun _ _ => trivial)) (Ev.now _)

/-- The program's block of a law's block. -/
def cvB (x : S54) : S59 := ⟨x.f0, x.f1.map cvS, x.f2⟩
def BLim (x : S54) : Prop := x.f1.length ≤ 1048576 ∧ (∀ y ∈ x.f1, SLim y) ∧ x.f2.size ≤ 1048576
def BLimT (x : S59) : Prop := x.f1.length ≤ 1048576 ∧ (∀ y ∈ x.f1, y.f0.size ≤ 1048576) ∧ x.f2.size ≤ 1048576
theorem szBlockX_ev (x : S54) (a : Int) (hg : good54 x) (a0 : 0 ≤ a) (a1 : a ≤ 1048576) : ∃ r, Ev (fun k => laws_szBlock.f k x.f0 x.f1 x.f2 a) r ∧ r ≤ a ∧ (r < 0 → r = -1) ∧ (0 ≤ r → BLim x) := szBlock_ev x.f0 x.f1 x.f2 a hg a0 a1
theorem toBlockX_ev (x : S54) (h : BLim x) : Ev (fun k => laws_toBlock.f k x.f0 x.f1 x.f2) (x.f0, x.f1.map cvS, x.f2) := toBlock_ev x.f0 x.f1 x.f2 h.1
theorem eqBlockX_ev (x : S59) (h : BLimT x) : Ev (fun k => laws_eqBlock.f k x.f0 x.f1 x.f2 x.f0 x.f1 x.f2) true := eqBlock_ev x.f0 x.f1 x.f2 h.1
theorem BLim_cv (x : S54) (h : BLim x) : BLimT (cvB x) := ⟨by simpa [cvB] using h.1, fun y hy => by
  obtain ⟨z, hz, rfl⟩ := List.mem_map.1 hy
  exact h.2.1 z hz, h.2.2⟩

theorem laws_szBlockS_loop (l : List S54) (hl : l.length ≤ 140737488355328) (hg : ∀ x ∈ l, good54 x) (d : Nat) : ∀ (a i : Int), 0 ≤ a → a ≤ 1048576 → 0 ≤ i → i ≤ l.length → (l.length : Int) - i = d → ∃ r, Ev (fun k => laws_szBlockS.l0 k l a i) r ∧ r ≤ a ∧ (r < 0 → r = -1) ∧ (0 ≤ r → ∀ j : Nat, i ≤ j → j < l.length → BLim (l.getD j z54)) := by
  induction d with
  | zero =>
    intro a i a0 a1 h0 h1 hd
    exact ⟨a, Ev.last (fun k => by simp only [laws_szBlockS.l0]; rw [if_neg (by omega)]), by omega, by omega, fun _ j j0 j1 => by omega⟩
  | succ d ih =>
    intro a i a0 a1 h0 h1 hd
    have hw : wrap64 (i + 1) = i + 1 := w64 (by omega) (by omega)
    obtain ⟨t, ht, t1, t2, t3⟩ := szBlockX_ev (l.getD i.toNat z54) a (hg _ (getD_mem (xs := l) (i := i.toNat) z54 (by omega))) a0 a1
    have key : ∀ k, laws_szBlockS.l0 (k + 1) l a i = ((fun (k : Nat) (x : S54) (a : Int) => laws_szBlock.f k x.f0 x.f1 x.f2 a) k (l.getD i.toNat z54) a).bind (fun t => if t < 0 then some (-1) else laws_szBlockS.l0 k l t (i + 1)) := fun k => by
      simp only [laws_szBlockS.l0]
      rw [if_pos (by omega), if_pos h0, hw]
      rfl
    by_cases hneg : t < 0
    · exact ⟨-1, Ev.step key (Ev.bind ht (Ev.now' fun _ => by rw [if_pos hneg])), by omega, fun _ => rfl, fun h => by omega⟩
    · obtain ⟨r, hr, h2, h3, h4⟩ := ih t (i + 1) (by omega) (by omega) (by omega) (by omega) (by omega)
      refine ⟨r, Ev.step key (Ev.bind ht (Ev.congr (fun k => by rw [if_neg hneg]) hr)), by omega, h3, fun hr0 j j0 j1 => ?_⟩
      by_cases ej : j = i.toNat
      · subst ej
        exact t3 (by omega)
      · exact h4 hr0 j (by omega) j1
theorem laws_szBlockS_ev (l : List S54) (a : Int) (hl : l.length ≤ 140737488355328) (hg : ∀ x ∈ l, good54 x) (a0 : 0 ≤ a) (a1 : a ≤ 1048576) : ∃ r, Ev (fun k => laws_szBlockS.f k l a) r ∧ r ≤ a ∧ (r < 0 → r = -1) ∧ (0 ≤ r → l.length ≤ 1048576 ∧ ∀ s ∈ l, BLim s) := by
  have hw : wrap64 (a - (l.length : Int)) = a - l.length := w64 (by omega) (by omega)
  by_cases hneg : a - (l.length : Int) < 0
  · exact ⟨-1, Ev.now' fun k => by unfold laws_szBlockS.f; rw [hw, if_pos hneg], by omega, fun _ => rfl, fun h => by omega⟩
  · obtain ⟨r, hr, h2, h3, h4⟩ := laws_szBlockS_loop l hl hg l.length (a - l.length) 0 (by omega) (by omega) (by omega) (by omega) (by omega)
    refine ⟨r, Ev.congr (fun k => ?_) hr, by omega, h3, fun hr0 => ⟨by omega, fun s hs => ?_⟩⟩
    · unfold laws_szBlockS.f
      rw [hw, if_neg hneg]
    · obtain ⟨j, hj, e⟩ := List.mem_iff_getElem.1 hs
      have := h4 hr0 j (by omega) hj
      rw [List.getD_eq_getElem?_getD, List.getElem?_eq_getElem hj] at this
      rw [← e]
      exact this

theorem laws_toBlockS_loop (l : List S54) (hl : l.length ≤ 1048576) (hg : ∀ x ∈ l, BLim x) (d : Nat) : ∀ (y : List S59) (i : Int), 0 ≤ i → i ≤ l.length → (l.length : Int) - i = d → y.length = l.length → y.take i.toNat = (l.map cvB).take i.toNat → Ev (fun k => laws_toBlockS.l0 k l y i) (l.map cvB) := by
  induction d with
  | zero =>
    intro y i h0 h1 hd hy ht
    have e : y = l.map cvB := take_all (by simpa using hy) (by rw [List.length_map, show l.length = i.toNat by omega]; exact ht)
    subst e
    exact Ev.last (fun k => by simp only [laws_toBlockS.l0]; rw [if_neg (by omega)])
  | succ d ih =>
    intro y i h0 h1 hd hy ht
    have hw : wrap64 (i + 1) = i + 1 := w64 (by omega) (by omega)
    have hx := toBlockX_ev (l.getD i.toNat z54) (hg _ (getD_mem (xs := l) (i := i.toNat) z54 (by omega)))
    have hs := set_take (l.map cvB) y (cvB z54) i.toNat (by rw [List.length_map]; omega) (by simpa using hy) ht
    have hm : (l.map cvB).getD i.toNat (cvB z54) = cvB (l.getD i.toNat z54) := by simp [List.getD_eq_getElem?_getD, List.getElem?_map, List.getElem?_eq_getElem (show i.toNat < l.length by omega)]
    rw [hm] at hs
    have h2 : i < (l.length : Int) := by omega
    have h3 : i < (y.length : Int) := by omega
    have key : ∀ k, laws_toBlockS.l0 (k + 1) l y i = ((fun (k : Nat) (x : S54) => laws_toBlock.f k x.f0 x.f1 x.f2) k (l.getD i.toNat z54)).bind (fun t => laws_toBlockS.l0 k l (y.set i.toNat ((fun t => (⟨t.1, t.2.1, t.2.2⟩ : S59)) t)) (i + 1)) := fun k => by
      simp only [laws_toBlockS.l0, if_pos h2, if_pos h0, if_pos h3, hw]
      rfl
    exact Ev.step key (Ev.bind hx (ih (y.set i.toNat (cvB (l.getD i.toNat z54))) (i + 1) (by omega) (by omega) (by omega) (by rw [List.length_set]; exact hy) (by rw [toNat_succ h0]; exact hs)))
theorem laws_toBlockS_ev (l : List S54) (hl : l.length ≤ 1048576) (hg : ∀ x ∈ l, BLim x) : Ev (fun k => laws_toBlockS.f k l) (l.map cvB) := by
  have h := laws_toBlockS_loop l hl hg l.length (List.replicate l.length z59) 0 (by omega) (by omega) (by omega) (by simp) (by simp)
  refine Ev.congr (fun k => ?_) h
  unfold laws_toBlockS.f
  rw [if_pos (by omega), if_pos (by omega)]
  rfl

theorem laws_eqBlockS_loop (l : List S59) (hl : l.length ≤ 1048576) (hg : ∀ x ∈ l, BLimT x) (d : Nat) : ∀ (i : Int), 0 ≤ i → i ≤ l.length → (l.length : Int) - i = d → Ev (fun k => laws_eqBlockS.l0 k l l i) true := by
  induction d with
  | zero =>
    intro i h0 h1 hd
    exact Ev.last (fun k => by simp only [laws_eqBlockS.l0]; rw [if_neg (by omega)])
  | succ d ih =>
    intro i h0 h1 hd
    have hw : wrap64 (i + 1) = i + 1 := w64 (by omega) (by omega)
    have h2 : i < (l.length : Int) := by omega
    have hx := eqBlockX_ev (l.getD i.toNat z59) (hg _ (getD_mem (xs := l) (i := i.toNat) z59 (by omega)))
    have key : ∀ k, laws_eqBlockS.l0 (k + 1) l l i = ((fun (k : Nat) (x : S59) => laws_eqBlock.f k x.f0 x.f1 x.f2 x.f0 x.f1 x.f2) k (l.getD i.toNat z59)).bind (fun t => if t = true then laws_eqBlockS.l0 k l l (i + 1) else some false) := fun k => by
      simp only [laws_eqBlockS.l0, if_pos h2, if_pos h0, hw]
      rfl
    exact Ev.step key (Ev.bind hx (Ev.congr (fun k => by rw [if_pos rfl]) (ih (i + 1) (by omega) (by omega) (by omega))))
theorem laws_eqBlockS_refl (l : List S59) (hl : l.length ≤ 1048576) (hg : ∀ x ∈ l, BLimT x) : Ev (fun k => laws_eqBlockS.f k l l) true := by
  refine Ev.congr (fun k => ?_) (laws_eqBlockS_loop l hl hg l.length 0 (by omega) (by omega) (by omega))
  unfold laws_eqBlockS.f
  rw [if_pos rfl]


/-- What is known of a law's disk whose size was told. -/
def DLim (a b : List Bool) (I : List S142) (B : List S54) : Prop := (a.length ≤ 1048576 ∧ b.length ≤ 1048576) ∧ (I.length ≤ 1048576 ∧ ∀ x ∈ I, ILim x) ∧ (B.length ≤ 1048576 ∧ ∀ x ∈ B, BLim x)
theorem szDisk_ev (a b : List Bool) (I : List S142) (B : List S54) (m : Int) (hg : good28 ⟨⟨a, b⟩, I, B⟩) (m0 : 0 ≤ m) (m1 : m ≤ 1048576) : ∃ r, Ev (fun k => laws_szDisk.f k a b I B m) r ∧ r ≤ m ∧ (0 ≤ r → DLim a b I B) := by
  obtain ⟨⟨⟨ha, _⟩, hb, _⟩, ⟨hI, hIg⟩, hB, hBg⟩ := hg
  simp only at ha hb hI hB hIg hBg
  unfold laws_szDisk.f
  obtain ⟨r, hr, r1, r2⟩ := szBits_eq a b m (by omega) (by omega) m0 m1
  simp only [hr, Option.bind_some]
  by_cases h : r < 0
  · exact ⟨-1, Ev.now' fun _ => by rw [if_pos h], by omega, fun h => by omega⟩
  · simp only [if_neg h]
    obtain ⟨q, hq, q1, q2, q3⟩ := laws_szInodeS_ev I r (by omega) hIg (by omega) (by omega)
    by_cases h2 : q < 0
    · exact ⟨-1, Ev.bind hq (Ev.now' fun _ => by rw [if_pos h2]), by omega, fun h => by omega⟩
    · obtain ⟨p, hp, p1, p2, p3⟩ := laws_szBlockS_ev B q (by omega) hBg (by omega) (by omega)
      by_cases h3 : p < 0
      · exact ⟨-1, Ev.bind hq (Ev.congr (fun k => by rw [if_neg h2]) (Ev.bind hp (Ev.now' fun _ => by rw [if_pos h3]))), by omega, fun h => by omega⟩
      · exact ⟨p, Ev.bind hq (Ev.congr (fun k => by rw [if_neg h2]) (Ev.bind hp (Ev.now' fun _ => by rw [if_neg h3]))), by omega, fun _ => ⟨r2 (by omega), q3 (by omega), p3 (by omega)⟩⟩
theorem toDisk_ev (a b : List Bool) (I : List S142) (B : List S54) (h : DLim a b I B) : Ev (fun k => laws_toDisk.f k a b I B) (a, b, I.map cvI, B.map cvB) := by
  obtain ⟨⟨ha, hb⟩, ⟨hI, hi⟩, hB, hb'⟩ := h
  unfold laws_toDisk.f
  exact Ev.bind (toBits_ev a b ha hb) (Ev.bind (laws_toInodeS_ev I hI hi) (Ev.bind (laws_toBlockS_ev B hB hb') (Ev.now _)))
/-- What is known of the program's disk. -/
def DLimT (a b : List Bool) (I : List S105) (B : List S59) : Prop := (a.length ≤ 1048576 ∧ b.length ≤ 1048576) ∧ (I.length ≤ 1048576 ∧ ∀ x ∈ I, ILimT x) ∧ (B.length ≤ 1048576 ∧ ∀ x ∈ B, BLimT x)
theorem DLim_cv {a b : List Bool} {I : List S142} {B : List S54} (h : DLim a b I B) : DLimT a b (I.map cvI) (B.map cvB) := by
  obtain ⟨hab, ⟨hI, hi⟩, hB, hb'⟩ := h
  refine ⟨hab, ⟨by simpa using hI, fun x hx => ?_⟩, by simpa using hB, fun x hx => ?_⟩
  · obtain ⟨y, hy, rfl⟩ := List.mem_map.1 hx
    exact hi y hy
  · obtain ⟨y, hy, rfl⟩ := List.mem_map.1 hx
    exact BLim_cv y (hb' y hy)
theorem eqDisk_ev (a b : List Bool) (I : List S105) (B : List S59) (h : DLimT a b I B) : Ev (fun k => laws_eqDisk.f k a b I B a b I B) true := by
  obtain ⟨⟨ha, hb⟩, ⟨hI, hi⟩, hB, hb'⟩ := h
  unfold laws_eqDisk.f
  exact Ev.bind (eqBits_ev a b ha hb) (Ev.bind (laws_eqInodeS_refl I hI hi) (Ev.bind (laws_eqBlockS_refl B hB hb') (Ev.now _)))

open Classical in
/-- A proposition as a Bool. -/
noncomputable def dB (p : Prop) : Bool := decide p
theorem dB_true {p : Prop} (h : p) : dB p = true := @decide_eq_true p (Classical.propDecidable p) h
theorem dB_false {p : Prop} (h : ¬ p) : dB p = false := @decide_eq_false p (Classical.propDecidable p) h
theorem dB_congr {p q : Prop} (h : p ↔ q) : dB p = dB q := by rw [propext h]
theorem of_dB {p : Prop} (h : dB p = true) : p := Classical.byContradiction fun hp => by rw [dB_false hp] at h; exact absurd h (by decide)

theorem dB_decide {p : Prop} [Decidable p] : decide p = dB p := by
  by_cases h : p
  · rw [decide_eq_true h, dB_true h]
  · rw [decide_eq_false h, dB_false h]
/-- A loop that asks each element, and ends at the first that is not right. -/
theorem all_loop {α : Type} (z : α) (l : List α) (f : Nat → Int → Option Bool) (c : Nat → α → Option Bool) (P : α → Prop) (R : Bool) (hc : ∀ x ∈ l, Ev (fun k => c k x) (dB (P x))) (hstep : ∀ (k i : Nat), i < l.length → f (k + 1) (i : Int) = (c k (l.getD i z)).bind (fun t => if t = true then f k ((i + 1 : Nat) : Int) else some false)) (hend : Ev (fun k => f k (l.length : Int)) R) (d : Nat) : ∀ (i : Nat), i ≤ l.length → l.length - i = d → Ev (fun k => f k (i : Int)) (dB ((∀ x ∈ l.drop i, P x) ∧ R = true)) := by
  induction d with
  | zero =>
    intro i hi hd
    obtain rfl : i = l.length := by omega
    have e : dB ((∀ x ∈ l.drop l.length, P x) ∧ R = true) = R := by
      cases R with
      | true => exact dB_true ⟨fun x hx => by simp at hx, rfl⟩
      | false => exact dB_false (fun h => by simp at h)
    rw [e]
    exact hend
  | succ d ih =>
    intro i hi hd
    have hlt : i < l.length := by omega
    have hdr : l.drop i = l.getD i z :: l.drop (i + 1) := by
      rw [List.drop_eq_getElem_cons hlt, List.getD_eq_getElem?_getD, List.getElem?_eq_getElem hlt]
      rfl
    have hx := hc _ (getD_mem (xs := l) (i := i) z hlt)
    refine Ev.step (fun k => hstep k i hlt) (Ev.bind hx ?_)
    by_cases hp : P (l.getD i z)
    · rw [dB_true hp]
      have e : dB ((∀ x ∈ l.drop i, P x) ∧ R = true) = dB ((∀ x ∈ l.drop (i + 1), P x) ∧ R = true) := dB_congr (by
        rw [hdr]
        simp only [List.mem_cons, forall_eq_or_imp, hp, true_and])
      rw [e]
      exact Ev.congr (fun k => by rw [if_pos rfl]) (ih (i + 1) (by omega) (by omega))
    · rw [dB_false hp, dB_false (fun h => hp (h.1 _ (by rw [hdr]; exact List.mem_cons_self)))]
      exact Ev.now' fun _ => rfl
theorem all_loop0 {α : Type} (z : α) (l : List α) (f : Nat → Int → Option Bool) (c : Nat → α → Option Bool) (P : α → Prop) (R : Bool) (hc : ∀ x ∈ l, Ev (fun k => c k x) (dB (P x))) (hstep : ∀ (k i : Nat), i < l.length → f (k + 1) (i : Int) = (c k (l.getD i z)).bind (fun t => if t = true then f k ((i + 1 : Nat) : Int) else some false)) (hend : Ev (fun k => f k (l.length : Int)) R) : Ev (fun k => f k 0) (dB ((∀ x ∈ l, P x) ∧ R = true)) := by
  have h := all_loop z l f c P R hc hstep hend l.length 0 (Nat.zero_le _) rfl
  rw [List.drop_zero] at h
  exact h

theorem in_eq (a b c : Int) : spec_l01In.f a b c = some (decide (b ≤ a ∧ a ≤ c)) := by
  unfold spec_l01In.f
  by_cases h : a ≥ b
  · rw [if_pos h]
    simp [show b ≤ a from h]
  · rw [if_neg h]
    simp [show ¬ b ≤ a from h]

theorem within_eq (a b c : Int) : impl_within.f a b c = some (decide (b ≤ a ∧ a ≤ c)) := by
  unfold impl_within.f
  by_cases h : a ≥ b
  · rw [if_pos h]
    simp [show b ≤ a from h]
  · rw [if_neg h]
    simp [show ¬ b ≤ a from h]

theorem name_ev (s : ByteArray) (hs : s.size ≤ 140737488351232) : ∃ r, Ev (fun k => spec_NameOk.f k s) r ∧ Ev (fun k => impl_NameOk.f k s) r ∧ (r = true → 1 ≤ s.size ∧ s.size ≤ 6) := by
  have loop : ∀ (d : Nat) (i : Int), 0 ≤ i → i ≤ s.size → (s.size : Int) - i = d → ∃ r, Ev (fun k => spec_NameOk.l0 k s i) r ∧ Ev (fun k => impl_NameOk.l0 k s (s.size : Int) i) r ∧ (r = true → 1 ≤ s.size ∧ s.size ≤ 6) := by
    intro d
    induction d with
    | zero =>
      intro i h0 h1 hd
      refine ⟨decide (1 ≤ (s.size : Int) ∧ (s.size : Int) ≤ 6), Ev.last fun k => ?_, Ev.last fun k => ?_, fun h => ?_⟩
      · simp only [spec_NameOk.l0]
        rw [if_neg (by omega), in_eq]
        rfl
      · simp only [impl_NameOk.l0]
        rw [if_neg (by omega), within_eq]
        rfl
      · have := of_decide_eq_true h
        omega
    | succ d ih =>
      intro i h0 h1 hd
      have hi : i < (s.size : Int) := by omega
      have hw : wrap64 (i + 1) = i + 1 := w64 (by omega) (by omega)
      have hb := bt_range s i
      have hwb : wrap64 (bt s i) = bt s i := w64 (by omega) (by omega)
      obtain ⟨r, hr1, hr2, hr3⟩ := ih (i + 1) (by omega) (by omega) (by omega)
      have es : ∀ k, spec_NameOk.l0 (k + 1) s i = if (97 ≤ bt s i ∧ bt s i ≤ 122) ∨ (48 ≤ bt s i ∧ bt s i ≤ 57) then spec_NameOk.l0 k s (i + 1) else some false := fun k => by
        simp only [spec_NameOk.l0]
        rw [if_pos hi, if_pos h0, hw]
        split <;> split <;> (try split) <;> (try split) <;> (try split) <;> first | rfl | omega
      have ei : ∀ k, impl_NameOk.l0 (k + 1) s (s.size : Int) i = if (97 ≤ bt s i ∧ bt s i ≤ 122) ∨ (48 ≤ bt s i ∧ bt s i ≤ 57) then impl_NameOk.l0 k s (s.size : Int) (i + 1) else some false := fun k => by
        simp only [impl_NameOk.l0]
        rw [if_pos hi, if_pos h0, if_pos hi, hw, hwb, within_eq, within_eq]
        simp only [Option.bind_some, decide_eq_true_eq]
        split <;> (try split) <;> (try split) <;> first | rfl | omega
      by_cases c : (97 ≤ bt s i ∧ bt s i ≤ 122) ∨ (48 ≤ bt s i ∧ bt s i ≤ 57)
      · exact ⟨r, Ev.step (fun k => by rw [es, if_pos c]) hr1, Ev.step (fun k => by rw [ei, if_pos c]) hr2, hr3⟩
      · exact ⟨false, Ev.last (fun k => by rw [es, if_neg c]), Ev.last (fun k => by rw [ei, if_neg c]), fun h => by simp at h⟩
  exact loop s.size 0 (by omega) (by omega) (by omega)
/-- Whether a text is a right name. -/
noncomputable def nameB (s : ByteArray) : Bool := if h : s.size ≤ 140737488351232 then (name_ev s h).choose else false
theorem nameB_eq (s : ByteArray) (h : s.size ≤ 140737488351232) : nameB s = (name_ev s h).choose := by
  unfold nameB
  rw [dif_pos h]
theorem name_spec (s : ByteArray) (h : s.size ≤ 140737488351232) : Ev (fun k => spec_NameOk.f k s) (nameB s) := by
  rw [nameB_eq s h]
  exact (name_ev s h).choose_spec.1
theorem name_impl (s : ByteArray) (h : s.size ≤ 140737488351232) : Ev (fun k => impl_NameOk.f k s) (nameB s) := by
  rw [nameB_eq s h]
  exact (name_ev s h).choose_spec.2.1
theorem name_size (s : ByteArray) (h : s.size ≤ 140737488351232) (hb : nameB s = true) : 1 ≤ s.size ∧ s.size ≤ 6 := by
  rw [nameB_eq s h] at hb
  exact (name_ev s h).choose_spec.2.2 hb

/-- The slot at j is empty, or right and the first of its name. -/
def SOk (l : List S69) (j : Nat) : Prop := ((l.getD j z69).f0.toList = ([] : List UInt8) ∧ (l.getD j z69).f1 = 0) ∨ (nameB (l.getD j z69).f0 = true ∧ 1 ≤ (l.getD j z69).f1 ∧ (l.getD j z69).f1 ≤ 8 ∧ ∀ k, k < j → ¬ (l.getD k z69).f0.toList = (l.getD j z69).f0.toList)
/-- A right block. -/
def BOk (b : Bool) (l : List S69) (t : ByteArray) : Prop := if b = true then (∀ j, j < l.length → SOk l j) ∧ l.length = 4 ∧ t.toList = ([] : List UInt8) else l.length = 0 ∧ t.size ≤ 16
theorem idx_le (nm : ByteArray) (l : List S69) (k : Nat) (i : Int) (hk : k < l.length) (h : (l.getD k z69).f0.toList = nm.toList) : impl_SlotOf.idx nm l i ≤ i + k := by
  induction l generalizing k i with
  | nil => simp at hk
  | cons x r ih =>
    simp only [impl_SlotOf.idx]
    split
    · omega
    · rename_i hx
      cases k with
      | zero => exact absurd (by simpa using h) hx
      | succ k =>
        have := ih k (i + 1) (by simpa using hk) (by simpa using h)
        omega
theorem idx_self (l : List S69) (j : Nat) (hj : j < l.length) : impl_SlotOf.idx (l.getD j z69).f0 l 0 = (j : Int) ↔ ∀ k, k < j → ¬ (l.getD k z69).f0.toList = (l.getD j z69).f0.toList := by
  constructor
  · intro h k hk e
    have := idx_le (l.getD j z69).f0 l k 0 (by omega) e
    omega
  · intro h
    rw [impl_SlotOf.idx_hit (l.getD j z69).f0 l j 0 hj rfl h]
    omega
theorem toList_ne {s : ByteArray} (h : 1 ≤ s.size) : ¬ s.toList = ([] : List UInt8) := fun e => by
  rw [Go.Lib.toList_data] at e
  have h2 : s.data.toList.length = 0 := by rw [e]; rfl
  rw [Array.length_toList] at h2
  have h3 : s.size = s.data.size := rfl
  omega
theorem spec_block_l1 (b : Bool) (l : List S69) (t : ByteArray) (hl : l.length = 4) (x3 : Nat) (h3 : x3 < 4) (R : Bool) (hR : Ev (fun n => spec_BlockOk.l0 n ((x3 : Int) + 1) b l t) R) (nm : ByteArray) (ino : Int) (d : Nat) : ∀ x5 : Nat, x5 ≤ x3 → x3 - x5 = d → Ev (fun n => spec_BlockOk.l1 n x3 x5 b l t nm ino) (dB ((∀ k, x5 ≤ k → k < x3 → ¬ (l.getD k z69).f0.toList = nm.toList) ∧ R = true)) := by
  induction d with
  | zero =>
    intro x5 h5 hd
    have hw : wrap64 ((x3 : Int) + 1) = (x3 : Int) + 1 := w64 (by omega) (by omega)
    have e : dB ((∀ k, x5 ≤ k → k < x3 → ¬ (l.getD k z69).f0.toList = nm.toList) ∧ R = true) = R := by
      cases R with
      | true => exact dB_true ⟨fun k h h' => by omega, rfl⟩
      | false => exact dB_false (fun h => by simp at h)
    rw [e]
    refine Ev.step (fun n => ?_) hR
    simp only [spec_BlockOk.l1]
    rw [if_neg (by omega), hw]
  | succ d ih =>
    intro x5 h5 hd
    have hw : wrap64 ((x5 : Int) + 1) = ((x5 + 1 : Nat) : Int) := by rw [w64 (by omega) (by omega)]; omega
    have e0 : rd_T69 l (x5 : Int) = l.getD x5 z69 := rfl
    by_cases hit : (l.getD x5 z69).f0.toList = nm.toList
    · rw [dB_false (fun h => h.1 x5 (Nat.le_refl _) (by omega) hit)]
      refine Ev.last (fun n => ?_)
      simp only [spec_BlockOk.l1, e0]
      rw [if_pos (by omega), if_pos (by omega), if_pos (by omega), if_pos hit]
    · have e : dB ((∀ k, x5 ≤ k → k < x3 → ¬ (l.getD k z69).f0.toList = nm.toList) ∧ R = true) = dB ((∀ k, x5 + 1 ≤ k → k < x3 → ¬ (l.getD k z69).f0.toList = nm.toList) ∧ R = true) := dB_congr ⟨fun h => ⟨fun k hk => h.1 k (by omega), h.2⟩, fun h => ⟨fun k hk hk' => by
        by_cases ek : k = x5
        · rw [ek]; exact hit
        · exact h.1 k (by omega) hk', h.2⟩⟩
      rw [e]
      refine Ev.step (fun n => ?_) (ih (x5 + 1) (by omega) (by omega))
      simp only [spec_BlockOk.l1, e0]
      rw [if_pos (by omega), if_pos (by omega), if_pos (by omega), if_neg hit, hw]
theorem spec_block_l0 (b : Bool) (l : List S69) (t : ByteArray) (hl : l.length = 4) (hn : ∀ x ∈ l, x.f0.size ≤ 140737488351232) (d : Nat) : ∀ i : Nat, i ≤ 4 → 4 - i = d → Ev (fun n => spec_BlockOk.l0 n i b l t) (dB (∀ j, i ≤ j → j < 4 → SOk l j)) := by
  induction d with
  | zero =>
    intro i h4 hd
    rw [dB_true (fun j h h' => by omega)]
    refine Ev.last (fun n => ?_)
    simp only [spec_BlockOk.l0]
    rw [if_neg (by omega)]
  | succ d ih =>
    intro i h4 hd
    have hw : wrap64 ((i : Int) + 1) = (i : Int) + 1 := w64 (by omega) (by omega)
    have e0 : rd_T69 l (i : Int) = l.getD i z69 := rfl
    have hi := ih (i + 1) (by omega) (by omega)
    have e1 : ((i + 1 : Nat) : Int) = (i : Int) + 1 := by omega
    rw [e1] at hi
    have hsz := hn _ (getD_mem (xs := l) (i := i) z69 (by omega))
    have split1 : dB (∀ j, i ≤ j → j < 4 → SOk l j) = dB (SOk l i ∧ dB (∀ j, i + 1 ≤ j → j < 4 → SOk l j) = true) := dB_congr ⟨fun h => ⟨h i (Nat.le_refl _) (by omega), dB_true (fun j hj => h j (by omega))⟩, fun h j hj hj' => by
      by_cases ej : j = i
      · rw [ej]; exact h.1
      · exact of_dB h.2 j (by omega) hj'⟩
    rw [split1]
    generalize hR : dB (∀ j, i + 1 ≤ j → j < 4 → SOk l j) = R at hi
    by_cases z : (l.getD i z69).f0.toList = ([] : List UInt8) ∧ (l.getD i z69).f1 = 0
    · have e : dB (SOk l i ∧ R = true) = R := by
        cases R with
        | true => exact dB_true ⟨Or.inl z, rfl⟩
        | false => exact dB_false (fun h => by simp at h)
      rw [e]
      refine Ev.step (f := fun n => spec_BlockOk.j2 n i ((l.getD i z69).f1 == 0) b l t (l.getD i z69).f0 (l.getD i z69).f1) (fun n => ?_) (Ev.step (fun n => ?_) hi)
      · simp only [spec_BlockOk.l0, e0]
        rw [if_pos (by omega), if_pos (by omega), if_pos (by omega), if_pos z.1]
      · simp only [spec_BlockOk.j2]
        rw [if_pos (beq_iff_eq.2 z.2), hw]
    · have hj2 : Ev (fun n => spec_BlockOk.j2 n i false b l t (l.getD i z69).f0 (l.getD i z69).f1) (dB (SOk l i ∧ R = true)) := by
        have key : ∀ n, spec_BlockOk.j2 (n + 1) i false b l t (l.getD i z69).f0 (l.getD i z69).f1 = (spec_NameOk.f n (l.getD i z69).f0).bind (fun r => if r = true then spec_BlockOk.j3 n i (!decide (1 ≤ (l.getD i z69).f1 ∧ (l.getD i z69).f1 ≤ 8)) b l t (l.getD i z69).f0 (l.getD i z69).f1 else spec_BlockOk.j3 n i true b l t (l.getD i z69).f0 (l.getD i z69).f1) := fun n => by
          simp only [spec_BlockOk.j2, in_eq, Option.bind_some, Bool.false_eq_true, if_false]
        have no : ¬ (SOk l i ∧ R = true) → Ev (fun n => spec_BlockOk.j3 n i true b l t (l.getD i z69).f0 (l.getD i z69).f1) (dB (SOk l i ∧ R = true)) := fun h => by
          rw [dB_false h]
          exact Ev.last (fun n => by simp only [spec_BlockOk.j3]; rfl)
        refine Ev.step key (Ev.bind (name_spec _ hsz) ?_)
        by_cases hb : nameB (l.getD i z69).f0 = true
        · refine Ev.congr (fun n => by rw [if_pos hb]) ?_
          by_cases hino : 1 ≤ (l.getD i z69).f1 ∧ (l.getD i z69).f1 ≤ 8
          · have e2 : (!decide (1 ≤ (l.getD i z69).f1 ∧ (l.getD i z69).f1 ≤ 8)) = false := by rw [decide_eq_true hino]; rfl
            rw [e2]
            have e : dB (SOk l i ∧ R = true) = dB ((∀ k, 0 ≤ k → k < i → ¬ (l.getD k z69).f0.toList = (l.getD i z69).f0.toList) ∧ R = true) := dB_congr ⟨fun h => ⟨fun k _ hk => by
              rcases h.1 with h1 | h1
              · exact absurd h1 z
              · exact h1.2.2.2 k hk, h.2⟩, fun h => ⟨Or.inr ⟨hb, hino.1, hino.2, fun k hk => h.1 k (Nat.zero_le _) hk⟩, h.2⟩⟩
            rw [e]
            have := spec_block_l1 b l t hl i (by omega) R hi (l.getD i z69).f0 (l.getD i z69).f1 i 0 (Nat.zero_le _) (by omega)
            refine Ev.step (fun n => ?_) this
            simp only [spec_BlockOk.j3, Bool.false_eq_true, if_false]
            rfl
          · have e2 : (!decide (1 ≤ (l.getD i z69).f1 ∧ (l.getD i z69).f1 ≤ 8)) = true := by rw [decide_eq_false hino]; rfl
            rw [e2]
            exact no (fun h => by
              rcases h.1 with h1 | h1
              · exact z h1
              · exact hino ⟨h1.2.1, h1.2.2.1⟩)
        · refine Ev.congr (fun n => by rw [if_neg hb]) ?_
          exact no (fun h => by
            rcases h.1 with h1 | h1
            · exact z h1
            · exact hb h1.1)
      refine Ev.step (fun n => ?_) hj2
      simp only [spec_BlockOk.l0, e0]
      rw [if_pos (by omega), if_pos (by omega), if_pos (by omega)]
      by_cases e : (l.getD i z69).f0.toList = ([] : List UInt8)
      · rw [if_pos e]
        have : ((l.getD i z69).f1 == 0) = false := beq_eq_false_iff_ne.2 (fun h => z ⟨e, h⟩)
        rw [this]
      · rw [if_neg e]
theorem spec_blockok (b : Bool) (l : List S69) (t : ByteArray) (hn : ∀ x ∈ l, x.f0.size ≤ 140737488351232) : Ev (fun n => spec_BlockOk.f n b l t) (dB (BOk b l t)) := by
  unfold spec_BlockOk.f
  by_cases hb : b = true
  · simp only [if_pos hb]
    have no : ¬ BOk b l t → Ev (fun n => spec_BlockOk.j0 n true b l t) (dB (BOk b l t)) := fun h => by
      rw [dB_false h]
      exact Ev.last (fun n => by simp only [spec_BlockOk.j0]; rfl)
    by_cases h4 : l.length = 4
    · have h4' : (l.length : Int) = 4 := by omega
      simp only [if_pos h4']
      by_cases ht : t.toList = ([] : List UInt8)
      · have e1 : (t.toList != ([] : List UInt8)) = false := bne_eq_false_iff_eq.2 ht
        have e : dB (BOk b l t) = dB (∀ j, 0 ≤ j → j < 4 → SOk l j) := dB_congr (by
          unfold BOk
          rw [if_pos hb]
          exact ⟨fun h j _ hj => h.1 j (by omega), fun h => ⟨fun j hj => h j (Nat.zero_le _) (by omega), h4, ht⟩⟩)
        rw [e, e1]
        refine Ev.step (fun n => ?_) (spec_block_l0 b l t h4 hn 4 0 (by omega) (by omega))
        simp only [spec_BlockOk.j0, Bool.false_eq_true, if_false]
        rfl
      · have e1 : (t.toList != ([] : List UInt8)) = true := bne_iff_ne.2 ht
        rw [e1]
        exact no (fun h => by
          unfold BOk at h
          rw [if_pos hb] at h
          exact ht h.2.2)
    · have h4' : ¬ (l.length : Int) = 4 := by omega
      simp only [if_neg h4']
      exact no (fun h => by
        unfold BOk at h
        rw [if_pos hb] at h
        exact h4 h.2.1)
  · simp only [if_neg hb]
    refine Ev.now' (fun _ => ?_)
    have e : dB (BOk b l t) = dB (l.length = 0 ∧ t.size ≤ 16) := dB_congr (by unfold BOk; rw [if_neg hb])
    rw [e]
    by_cases h0 : l.length = 0
    · rw [if_pos (by omega)]
      by_cases h16 : t.size ≤ 16
      · rw [dB_true ⟨h0, h16⟩, decide_eq_true (by omega)]
      · rw [dB_false (fun h => h16 h.2), decide_eq_false (by omega)]
    · rw [if_neg (by omega), dB_false (fun h => h0 h.1)]

theorem impl_block_loop (b : Bool) (l : List S69) (t : ByteArray) (hl : l.length ≤ 1048576) (hn : ∀ x ∈ l, x.f0.size ≤ 140737488351232) (d : Nat) : ∀ i : Nat, i ≤ l.length → l.length - i = d → Ev (fun n => impl_BlockOk.l0 n l (l.length : Int) i b l t) (dB ((∀ j, i ≤ j → j < l.length → SOk l j) ∧ l.length = 4 ∧ t.toList = ([] : List UInt8))) := by
  induction d with
  | zero =>
    intro i h1 hd
    refine Ev.last (fun n => ?_)
    simp only [impl_BlockOk.l0]
    rw [if_neg (by omega)]
    by_cases h4 : l.length = 4
    · rw [if_pos (by omega)]
      by_cases ht : t.toList = ([] : List UInt8)
      · rw [dB_true ⟨fun j h h' => by omega, h4, ht⟩, beq_iff_eq.2 ht]
      · rw [dB_false (fun h => ht h.2.2), beq_eq_false_iff_ne.2 ht]
    · rw [if_neg (by omega), dB_false (fun h => h4 h.2.1)]
  | succ d ih =>
    intro i h1 hd
    have hw : wrap64 ((i : Int) + 1) = ((i + 1 : Nat) : Int) := by rw [w64 (by omega) (by omega)]; omega
    have e0 : rd_T69 l (i : Int) = l.getD i z69 := rfl
    have hi := ih (i + 1) (by omega) (by omega)
    have hsz := hn _ (getD_mem (xs := l) (i := i) z69 (by omega))
    have yes : SOk l i → dB ((∀ j, i ≤ j → j < l.length → SOk l j) ∧ l.length = 4 ∧ t.toList = ([] : List UInt8)) = dB ((∀ j, i + 1 ≤ j → j < l.length → SOk l j) ∧ l.length = 4 ∧ t.toList = ([] : List UInt8)) := fun h => dB_congr ⟨fun q => ⟨fun j hj => q.1 j (by omega), q.2⟩, fun q => ⟨fun j hj hj' => by
      by_cases ej : j = i
      · rw [ej]; exact h
      · exact q.1 j (by omega) hj', q.2⟩⟩
    have no : ¬ SOk l i → dB ((∀ j, i ≤ j → j < l.length → SOk l j) ∧ l.length = 4 ∧ t.toList = ([] : List UInt8)) = false := fun h => dB_false (fun q => h (q.1 i (Nat.le_refl _) (by omega)))
    by_cases z : (l.getD i z69).f0.toList = ([] : List UInt8) ∧ (l.getD i z69).f1 = 0
    · rw [yes (Or.inl z)]
      refine Ev.step (fun n => ?_) hi
      simp only [impl_BlockOk.l0, e0]
      rw [if_pos (by omega), if_pos (by omega), if_pos (by omega), if_pos (by rw [Bool.and_eq_true, beq_iff_eq, beq_iff_eq]; exact z), hw]
    · have hz : ¬ ((((l.getD i z69).f0).toList) == ([] : List UInt8) && (((l.getD i z69).f1) == 0)) = true := by
        intro h
        rw [Bool.and_eq_true, beq_iff_eq, beq_iff_eq] at h
        exact z h
      have key : ∀ n, impl_BlockOk.l0 (n + 1) l (l.length : Int) i b l t = (impl_NameOk.f n (l.getD i z69).f0).bind (fun r => if r = true then (if (1 ≤ (l.getD i z69).f1 ∧ (l.getD i z69).f1 ≤ 8) then (impl_SlotOf.f b l t (l.getD i z69).f0).bind (fun q => if q = (i : Int) then impl_BlockOk.l0 n l (l.length : Int) ((i + 1 : Nat) : Int) b l t else some false) else some false) else some false) := fun n => by
        simp only [impl_BlockOk.l0, e0, impl_isIno.f, within_eq, Option.bind_some, decide_eq_true_eq]
        rw [if_pos (by omega), if_pos (by omega), if_pos (by omega), if_neg hz, hw]
      refine Ev.step key (Ev.bind (name_impl _ hsz) ?_)
      by_cases hb : nameB (l.getD i z69).f0 = true
      · refine Ev.congr (fun n => by rw [if_pos hb]) ?_
        by_cases hino : 1 ≤ (l.getD i z69).f1 ∧ (l.getD i z69).f1 ≤ 8
        · refine Ev.congr (fun n => by rw [if_pos hino]) ?_
          have hne := toList_ne (name_size _ hsz hb).1
          have hs : impl_SlotOf.f b l t (l.getD i z69).f0 = some (impl_SlotOf.idx (l.getD i z69).f0 l 0) := by
            unfold impl_SlotOf.f
            rw [if_neg hne]
          simp only [hs, Option.bind_some]
          by_cases hx : impl_SlotOf.idx (l.getD i z69).f0 l 0 = (i : Int)
          · have hok : SOk l i := Or.inr ⟨hb, hino.1, hino.2, (idx_self l i (by omega)).1 hx⟩
            rw [yes hok]
            exact Ev.congr (fun n => by rw [if_pos hx]) hi
          · rw [no (fun h => by
              rcases h with h | h
              · exact z h
              · exact hx ((idx_self l i (by omega)).2 h.2.2.2))]
            exact Ev.now' (fun n => by rw [if_neg hx])
        · rw [no (fun h => by
            rcases h with h | h
            · exact z h
            · exact hino ⟨h.2.1, h.2.2.1⟩)]
          exact Ev.now' (fun n => by rw [if_neg hino])
      · rw [no (fun h => by
          rcases h with h | h
          · exact z h
          · exact hb h.1)]
        exact Ev.now' (fun n => by rw [if_neg hb])
theorem impl_blockok (b : Bool) (l : List S69) (t : ByteArray) (hl : l.length ≤ 1048576) (hn : ∀ x ∈ l, x.f0.size ≤ 140737488351232) : Ev (fun n => impl_BlockOk.f n b l t) (dB (BOk b l t)) := by
  unfold impl_BlockOk.f
  by_cases hb : b = true
  · simp only [if_pos hb]
    have e : dB (BOk b l t) = dB ((∀ j, 0 ≤ j → j < l.length → SOk l j) ∧ l.length = 4 ∧ t.toList = ([] : List UInt8)) := dB_congr (by
      unfold BOk
      rw [if_pos hb]
      exact ⟨fun h => ⟨fun j _ hj => h.1 j hj, h.2⟩, fun h => ⟨fun j hj => h.1 j (Nat.zero_le _) hj, h.2⟩⟩)
    rw [e]
    exact impl_block_loop b l t hl hn l.length 0 (Nat.zero_le _) (by omega)
  · simp only [if_neg hb]
    refine Ev.now' (fun _ => ?_)
    have e : dB (BOk b l t) = dB (l.length = 0 ∧ t.size ≤ 16) := dB_congr (by unfold BOk; rw [if_neg hb])
    rw [e]
    by_cases h0 : l.length = 0
    · rw [if_pos (by omega)]
      by_cases h16 : t.size ≤ 16
      · rw [dB_true ⟨h0, h16⟩, decide_eq_true (by omega)]
      · rw [dB_false (fun h => h16 h.2), decide_eq_false (by omega)]
    · rw [if_neg (by omega), dB_false (fun h => h0 h.1)]


/-- A right inode. -/
def IOk (k l : Int) (p : List Int) : Prop := 0 ≤ k ∧ k ≤ 2 ∧ 0 ≤ l ∧ l ≤ 200 ∧ p.length = 2 ∧ (∀ x ∈ p, 0 ≤ x ∧ x ≤ 16 ∧ (k = 0 → x = 0)) ∧ (k = 0 → l = 0)
instance (k l : Int) (p : List Int) : Decidable (IOk k l p) := by unfold IOk; infer_instance
theorem two_of {p : List Int} (h : p.length = 2) : ∃ a b, p = [a, b] := by
  match p, h with
  | [a, b], _ => exact ⟨a, b, rfl⟩
theorem spec_inodeok_two (k l a b : Int) : Ev (fun n => spec_InodeOk.l0 n 0 k l [a, b]) (decide ((0 ≤ a ∧ a ≤ 16 ∧ (k = 0 → a = 0)) ∧ (0 ≤ b ∧ b ≤ 16 ∧ (k = 0 → b = 0)) ∧ (k = 0 → l = 0))) := by
  refine Ev.at_ 4 (fun n hn => ?_)
  obtain ⟨n, rfl⟩ : ∃ m, n = m + 4 := ⟨n - 4, by omega⟩
  have r0 : rd [a, b] 0 = a := rfl
  have r1 : rd [a, b] 1 = b := rfl
  have w0 : wrap64 (0 + 1) = 1 := by decide +kernel
  have w1 : wrap64 (1 + 1) = 2 := by decide +kernel
  simp only [spec_InodeOk.l0, in_eq, Option.bind_some, r0, w0, r1, w1, decide_eq_true_eq]
  by_cases k0 : k = 0
  · subst k0
    by_cases h1 : 0 ≤ a ∧ a ≤ 16
    · by_cases h2 : a = 0
      · by_cases h3 : 0 ≤ b ∧ b ≤ 16
        · by_cases h4 : b = 0
          · by_cases h5 : l = 0
            · simp [h2, h4, h5]
            · simp [h2, h4, h5]
          · simp [h2, h3, h4]
        · simp [h2, h3]
          try omega
      · simp [h1, h2]
    · simp [h1]
      try omega
  · by_cases h1 : 0 ≤ a ∧ a ≤ 16
    · by_cases h3 : 0 ≤ b ∧ b ≤ 16
      · simp [k0, h1, h3]
      · simp [k0, h1, h3]
        try omega
    · simp [k0, h1]
      try omega
theorem spec_inodeok (k l : Int) (p : List Int) : Ev (fun n => spec_InodeOk.f n k l p) (decide (IOk k l p)) := by
  have no : ∀ {x0 x1 : Int} {x2 : List Int}, ¬ IOk k l p → Ev (fun n => spec_InodeOk.j0 n true x0 x1 x2) (decide (IOk k l p)) := fun h => Ev.last (fun n => by simp only [spec_InodeOk.j0]; rw [decide_eq_false h]; rfl)
  unfold spec_InodeOk.f
  simp only [in_eq, Option.bind_some, decide_eq_true_eq]
  by_cases h1 : 0 ≤ k ∧ k ≤ 2
  · by_cases h2 : 0 ≤ l ∧ l ≤ 200
    · simp only [if_pos h1, if_pos h2]
      by_cases h3 : p.length = 2
      · obtain ⟨a, b, rfl⟩ := two_of h3
        refine Ev.step (f := fun n => spec_InodeOk.l0 n 0 k l [a, b]) (fun n => by simp only [spec_InodeOk.j0]; rfl) ?_
        have e : decide (IOk k l [a, b]) = decide ((0 ≤ a ∧ a ≤ 16 ∧ (k = 0 → a = 0)) ∧ (0 ≤ b ∧ b ≤ 16 ∧ (k = 0 → b = 0)) ∧ (k = 0 → l = 0)) := by
          rw [decide_eq_decide]
          unfold IOk
          simp [h1, h2, and_assoc]
        rw [e]
        exact spec_inodeok_two k l a b
      · have hb : ((p.length : Int) != 2) = true := by rw [bne_iff_ne]; omega
        rw [hb]
        exact no (fun h => h3 h.2.2.2.2.1)
    · simp only [if_pos h1, if_neg h2]
      exact no (fun h => h2 ⟨h.2.2.1, h.2.2.2.1⟩)
  · simp only [if_neg h1]
    exact no (fun h => h1 ⟨h.1, h.2.1⟩)
theorem impl_inodeok_loop (k l : Int) (p : List Int) (hp : p.length ≤ 1048576) (d : Nat) : ∀ (i : Int), 0 ≤ i → i ≤ p.length → (p.length : Int) - i = d → (∀ j : Nat, (j : Int) < i → 0 ≤ p.getD j 0 ∧ p.getD j 0 ≤ 16 ∧ (k = 0 → p.getD j 0 = 0)) → Ev (fun n => impl_InodeOk.l0 n p (p.length : Int) i k l p) (decide (IOk k l p)) := by
  induction d with
  | zero =>
    intro i h0 h1 hd hall
    have hall' : ∀ x ∈ p, 0 ≤ x ∧ x ≤ 16 ∧ (k = 0 → x = 0) := fun x hx => by
      obtain ⟨j, hj, e⟩ := List.mem_iff_getElem.1 hx
      have := hall j (by omega)
      rw [List.getD_eq_getElem?_getD, List.getElem?_eq_getElem hj] at this
      rw [← e]
      exact this
    refine Ev.last (fun n => ?_)
    simp only [impl_InodeOk.l0, within_eq, Option.bind_some, decide_eq_true_eq]
    rw [if_neg (by omega)]
    have hlen : ((p.length : Int) = 2) ↔ p.length = 2 := by omega
    by_cases a1 : 0 ≤ k ∧ k ≤ 2
    · by_cases a2 : 0 ≤ l ∧ l ≤ 200
      · by_cases a3 : p.length = 2
        · rw [if_pos a1, if_pos a2, if_pos (hlen.2 a3)]
          by_cases k0 : k = 0
          · rw [if_pos k0]
            by_cases l0 : l = 0
            · rw [decide_eq_true (show IOk k l p from ⟨a1.1, a1.2, a2.1, a2.2, a3, hall', fun _ => l0⟩), l0]
              rfl
            · rw [decide_eq_false (fun h : IOk k l p => l0 (h.2.2.2.2.2.2 k0)), beq_eq_false_iff_ne.2 l0]
          · rw [if_neg k0, decide_eq_true (show IOk k l p from ⟨a1.1, a1.2, a2.1, a2.2, a3, hall', fun h => absurd h k0⟩)]
        · rw [if_pos a1, if_pos a2, if_neg (fun h => a3 (hlen.1 h)), decide_eq_false (fun h : IOk k l p => a3 h.2.2.2.2.1)]
      · rw [if_pos a1, if_neg a2, decide_eq_false (fun h : IOk k l p => a2 ⟨h.2.2.1, h.2.2.2.1⟩)]
    · rw [if_neg a1, decide_eq_false (fun h : IOk k l p => a1 ⟨h.1, h.2.1⟩)]
  | succ d ih =>
    intro i h0 h1 hd hall
    have hw : wrap64 (i + 1) = i + 1 := w64 (by omega) (by omega)
    have e : rd p i = p.getD i.toNat 0 := rfl
    have hmem := getD_mem (xs := p) (i := i.toNat) 0 (by omega)
    by_cases hin : 0 ≤ p.getD i.toNat 0 ∧ p.getD i.toNat 0 ≤ 16 ∧ (k = 0 → p.getD i.toNat 0 = 0)
    · refine Ev.step (fun n => ?_) (ih (i + 1) (by omega) (by omega) (by omega) (fun j hj => by
        by_cases ej : j = i.toNat
        · rw [ej]; exact hin
        · exact hall j (by omega)))
      simp only [impl_InodeOk.l0, within_eq, Option.bind_some, decide_eq_true_eq, e]
      rw [if_pos (by omega), if_pos h0, if_pos (by omega), if_pos ⟨hin.1, hin.2.1⟩, hw]
      by_cases z : p.getD i.toNat 0 = 0
      · rw [if_pos z]
      · rw [if_neg z, if_neg (fun k0 => z (hin.2.2 k0))]
    · refine Ev.last (fun n => ?_)
      rw [decide_eq_false (fun h : IOk k l p => hin (h.2.2.2.2.2.1 _ hmem))]
      simp only [impl_InodeOk.l0, within_eq, Option.bind_some, decide_eq_true_eq, e]
      rw [if_pos (by omega), if_pos h0, if_pos (by omega)]
      by_cases hr : 0 ≤ p.getD i.toNat 0 ∧ p.getD i.toNat 0 ≤ 16
      · have hk : k = 0 := Decidable.byContradiction fun hk => hin ⟨hr.1, hr.2, fun h => absurd h hk⟩
        have hz : ¬ p.getD i.toNat 0 = 0 := fun hz => hin ⟨hr.1, hr.2, fun _ => hz⟩
        rw [if_pos hr, if_neg hz, if_pos hk]
      · rw [if_neg hr]
theorem impl_inodeok (k l : Int) (p : List Int) (hp : p.length ≤ 1048576) : Ev (fun n => impl_InodeOk.f n k l p) (decide (IOk k l p)) :=
  impl_inodeok_loop k l p hp p.length 0 (by omega) (by omega) (by omega) (fun j hj => by omega)

/-- A right disk. -/
def DOk (a b : List Bool) (I : List S105) (B : List S59) : Prop := ((a.length = 16 ∧ b.length = 8) ∧ I.length = 8 ∧ B.length = 16) ∧ (∀ x ∈ I, IOk x.f0 x.f1 x.f2) ∧ (∀ x ∈ B, BOk x.f0 x.f1 x.f2)
theorem BLimT_nm {x : S59} (h : BLimT x) : ∀ y ∈ x.f1, y.f0.size ≤ 140737488351232 := fun y hy => by have := h.2.1 y hy; omega
theorem spec_diskok (a b : List Bool) (I : List S105) (B : List S59) (h : DLimT a b I B) : Ev (fun k => spec_DiskOk.f k a b I B) (dB (DOk a b I B)) := by
  obtain ⟨⟨ha, hb⟩, ⟨hI, hi⟩, hB, hb'⟩ := h
  have no : ¬ DOk a b I B → Ev (fun k => spec_DiskOk.j0 k true a b I B) (dB (DOk a b I B)) := fun hn => by
    rw [dB_false hn]
    exact Ev.last fun k => by simp only [spec_DiskOk.j0]; rfl
  unfold spec_DiskOk.f spec_BitsOk.f
  by_cases h16 : a.length = 16
  · by_cases h8 : b.length = 8
    · have e1 : (if (a.length : Int) = 16 then some ((b.length : Int) == 8) else some false) = some true := by
        rw [if_pos (by omega), beq_iff_eq.2 (by omega)]
      simp only [e1, Option.bind_some, if_true]
      by_cases hi8 : I.length = 8
      · by_cases hb16 : B.length = 16
        · have e2 : ((B.length : Int) != 16) = false := by rw [hb16]; rfl
          simp only [if_pos (show (I.length : Int) = 8 by omega), e2]
          refine Ev.step (f := fun k => spec_DiskOk.l0 k 0 a b I B) (fun k => by simp only [spec_DiskOk.j0]; rfl) ?_
          have h1 := all_loop0 z59 B (fun k i => spec_DiskOk.l1 k i a b I B) (fun k x => spec_BlockOk.f k x.f0 x.f1 x.f2) (fun x => BOk x.f0 x.f1 x.f2) true (fun x hx => spec_blockok x.f0 x.f1 x.f2 (BLimT_nm (hb' x hx))) (fun k i hlt => by
            have hw : wrap64 ((i : Int) + 1) = ((i + 1 : Nat) : Int) := by rw [w64 (by omega) (by omega)]; omega
            simp only [spec_DiskOk.l1]
            rw [if_pos (by omega), if_pos (by omega), hw]
            rfl) (Ev.last fun k => by simp only [spec_DiskOk.l1]; rw [if_neg (by omega)])
          have h2 := all_loop0 z105 I (fun k i => spec_DiskOk.l0 k i a b I B) (fun k x => spec_InodeOk.f k x.f0 x.f1 x.f2) (fun x => IOk x.f0 x.f1 x.f2) _ (fun x hx => by rw [← dB_decide]; exact spec_inodeok x.f0 x.f1 x.f2) (fun k i hlt => by
            have hw : wrap64 ((i : Int) + 1) = ((i + 1 : Nat) : Int) := by rw [w64 (by omega) (by omega)]; omega
            simp only [spec_DiskOk.l0]
            rw [if_pos (by omega), if_pos (by omega), hw]
            rfl) (Ev.step (fun k => by simp only [spec_DiskOk.l0]; rw [if_neg (by omega)]) h1)
          have e3 : dB (DOk a b I B) = dB ((∀ x ∈ I, IOk x.f0 x.f1 x.f2) ∧ dB ((∀ x ∈ B, BOk x.f0 x.f1 x.f2) ∧ true = true) = true) := dB_congr ⟨fun q => ⟨q.2.1, dB_true ⟨q.2.2, rfl⟩⟩, fun q => ⟨⟨⟨h16, h8⟩, hi8, hb16⟩, q.1, (of_dB q.2).1⟩⟩
          rw [e3]
          exact h2
        · have e2 : ((B.length : Int) != 16) = true := by rw [bne_iff_ne]; omega
          simp only [if_pos (show (I.length : Int) = 8 by omega), e2]
          exact no (fun q => hb16 q.1.2.2)
      · simp only [if_neg (show ¬ (I.length : Int) = 8 by omega)]
        exact no (fun q => hi8 q.1.2.1)
    · have e1 : (if (a.length : Int) = 16 then some ((b.length : Int) == 8) else some false) = some false := by
        rw [if_pos (by omega), beq_eq_false_iff_ne.2 (by omega)]
      simp only [e1, Option.bind_some, Bool.false_eq_true, if_false]
      exact no (fun q => h8 q.1.1.2)
  · have e1 : (if (a.length : Int) = 16 then some ((b.length : Int) == 8) else some false) = some false := by
      rw [if_neg (by omega)]
    simp only [e1, Option.bind_some, Bool.false_eq_true, if_false]
    exact no (fun q => h16 q.1.1.1)
theorem impl_diskok (a b : List Bool) (I : List S105) (B : List S59) (h : DLimT a b I B) : Ev (fun k => impl_DiskOk.f k a b I B) (dB (DOk a b I B)) := by
  obtain ⟨⟨ha, hb⟩, ⟨hI, hi⟩, hB, hb'⟩ := h
  unfold impl_DiskOk.f
  have hend : (impl_BitsOk.f a b).bind (fun t => if t = true then (if (I.length : Int) = 8 then some ((B.length : Int) == 16) else some false) else some false) = some (dB ((a.length = 16 ∧ b.length = 8) ∧ I.length = 8 ∧ B.length = 16)) := by
    unfold impl_BitsOk.f
    by_cases h16 : a.length = 16
    · by_cases h8 : b.length = 8
      · rw [if_pos (show (a.length : Int) = 16 by omega), beq_iff_eq.2 (show (b.length : Int) = 8 by omega)]
        simp only [Option.bind_some, if_true]
        by_cases hi8 : I.length = 8
        · rw [if_pos (by omega)]
          by_cases hb16 : B.length = 16
          · rw [beq_iff_eq.2 (show (B.length : Int) = 16 by omega), dB_true ⟨⟨h16, h8⟩, hi8, hb16⟩]
          · rw [beq_eq_false_iff_ne.2 (show (B.length : Int) ≠ 16 by omega), dB_false (fun q => hb16 q.2.2)]
        · rw [if_neg (by omega), dB_false (fun q => hi8 q.2.1)]
      · rw [if_pos (show (a.length : Int) = 16 by omega), beq_eq_false_iff_ne.2 (show (b.length : Int) ≠ 8 by omega), dB_false (fun q => h8 q.1.2)]
        rfl
    · rw [if_neg (show ¬ (a.length : Int) = 16 by omega), dB_false (fun q => h16 q.1.1)]
      rfl
  have h1 := all_loop0 z59 B (fun k i => impl_DiskOk.l1 k B (B.length : Int) i a b I B) (fun k x => impl_BlockOk.f k x.f0 x.f1 x.f2) (fun x => BOk x.f0 x.f1 x.f2) _ (fun x hx => impl_blockok x.f0 x.f1 x.f2 (hb' x hx).1 (BLimT_nm (hb' x hx))) (fun k i hlt => by
    have hw : wrap64 ((i : Int) + 1) = ((i + 1 : Nat) : Int) := by rw [w64 (by omega) (by omega)]; omega
    simp only [impl_DiskOk.l1]
    rw [if_pos (by omega), if_pos (by omega), if_pos (by omega), hw]
    rfl) (Ev.last fun k => by simp only [impl_DiskOk.l1]; rw [if_neg (by omega)]; exact hend)
  have h2 := all_loop0 z105 I (fun k i => impl_DiskOk.l0 k I (I.length : Int) i a b I B) (fun k x => impl_InodeOk.f k x.f0 x.f1 x.f2) (fun x => IOk x.f0 x.f1 x.f2) _ (fun x hx => by rw [← dB_decide]; exact impl_inodeok x.f0 x.f1 x.f2 (hi x hx)) (fun k i hlt => by
    have hw : wrap64 ((i : Int) + 1) = ((i + 1 : Nat) : Int) := by rw [w64 (by omega) (by omega)]; omega
    simp only [impl_DiskOk.l0]
    rw [if_pos (by omega), if_pos (by omega), if_pos (by omega), hw]
    rfl) (Ev.step (fun k => by simp only [impl_DiskOk.l0]; rw [if_neg (by omega)]) h1)
  have e3 : dB (DOk a b I B) = dB ((∀ x ∈ I, IOk x.f0 x.f1 x.f2) ∧ dB ((∀ x ∈ B, BOk x.f0 x.f1 x.f2) ∧ dB ((a.length = 16 ∧ b.length = 8) ∧ I.length = 8 ∧ B.length = 16) = true) = true) := dB_congr ⟨fun q => ⟨q.2.1, dB_true ⟨q.2.2, dB_true q.1⟩⟩, fun q => ⟨of_dB (of_dB q.2).2, q.1, (of_dB q.2).1⟩⟩
  rw [e3]
  exact h2

/-- Eight bits' number. -/
def pv (l : List Bool) : Int := l.foldr (fun b n => (if b then 1 else 0) + 2 * n) 0
theorem eight_of {l : List Bool} (h : l.length = 8) : ∃ a b c d e f g i, l = [a, b, c, d, e, f, g, i] := by
  match l, h with
  | [a, b, c, d, e, f, g, i], _ => exact ⟨a, b, c, d, e, f, g, i, rfl⟩
theorem packed_all : ∀ a b c d e f g i : Bool, impl_packed.f 10 [a, b, c, d, e, f, g, i] = some (pv [a, b, c, d, e, f, g, i]) ∧ 0 ≤ pv [a, b, c, d, e, f, g, i] ∧ pv [a, b, c, d, e, f, g, i] ≤ 255 := by decide +kernel
theorem impl_packed_ev (l : List Bool) (h : l.length = 8) : Ev (fun k => impl_packed.f k l) (pv l) ∧ 0 ≤ pv l ∧ pv l ≤ 255 := by
  obtain ⟨a, b, c, d, e, f, g, i, rfl⟩ := eight_of h
  obtain ⟨h2, h3⟩ := packed_all a b c d e f g i
  exact ⟨Ev.of (fun k => impl_packed.mono _ k) h2, h3⟩

theorem bytetexts_loop (p : List Int) (hp : p.length ≤ 1048576) (d : Nat) : ∀ (l : List Int) (i : Nat), i ≤ p.length → p.length - i = d → l = (p.take i).map (· % 256) → Ev (fun k => impl_byteTexts.l0 k l p (p.length : Int) (i : Int)) (strOfNums (p.map (· % 256))) := by
  induction d with
  | zero =>
    intro l i hi hd hl
    obtain rfl : i = p.length := by omega
    rw [List.take_length] at hl
    subst hl
    exact Ev.last (fun k => by simp only [impl_byteTexts.l0]; rw [if_neg (by omega)])
  | succ d ih =>
    intro l i hi hd hl
    have hlen : l.length = i := by rw [hl]; simp; omega
    refine Ev.step (fun k => ?_) (ih (l ++ [rd p (i : Int) % 256]) (i + 1) (by omega) (by omega) ?_)
    · simp only [impl_byteTexts.l0]
      rw [if_pos (by omega), if_pos (by omega), if_pos (by omega), if_pos (by omega), w64 (x := (i : Int) + 1) (by omega) (by omega)]
      rfl
    · have hr : rd p (i : Int) = p[i] := by
        unfold rd
        rw [Int.toNat_natCast, List.getD_eq_getElem?_getD, List.getElem?_eq_getElem (by omega)]
        rfl
      rw [List.take_succ_eq_append_getElem (by omega), List.map_append, ← hl, hr]
      rfl
theorem bytetexts_ev (p : List Int) (hp : p.length ≤ 1048576) : Ev (fun k => impl_byteTexts.f k p) (strOfNums (p.map (· % 256))) :=
  bytetexts_loop p hp p.length [] 0 (by omega) (by omega) (by simp)
theorem strOfNums_append (xs ys : List Int) : strOfNums xs ++ strOfNums ys = strOfNums (xs ++ ys) := by
  apply toList_inj
  rw [Go.Lib.toList_data, Go.Lib.toList_data, ByteArray.data_append, Array.toList_append, strOfNums_data, strOfNums_data, strOfNums_data, List.map_append]

/-- What both BitsTexts answer. -/
def BtT (a b : List Bool) : ByteArray × Bool := if a.length = 16 ∧ b.length = 8 then (strOfNums [pv (a.take 8), pv (a.drop 8), pv b], true) else (⟨#[]⟩, false)
theorem impl_bitsok (a b : List Bool) : impl_BitsOk.f a b = some (decide (a.length = 16 ∧ b.length = 8)) := by
  unfold impl_BitsOk.f
  by_cases h1 : a.length = 16
  · by_cases h2 : b.length = 8
    · simp [h1, h2]
    · have : ((b.length : Int) == 8) = false := beq_eq_false_iff_ne.2 (by omega)
      simp [h1, h2, this]
  · have : ¬ (a.length : Int) = 16 := by omega
    simp [h1, this]
theorem impl_bitstext (a b : List Bool) : Ev (fun k => impl_BitsText.f k a b) (BtT a b) := by
  unfold impl_BitsText.f BtT
  simp only [impl_bitsok, Option.bind_some]
  by_cases h : a.length = 16 ∧ b.length = 8
  · simp only [decide_eq_true h, if_true, if_pos h]
    simp only [if_pos (show (8 : Int) ≤ (a.length : Int) by omega)]
    obtain ⟨e1, l1, u1⟩ := impl_packed_ev (a.take 8) (by simp; omega)
    obtain ⟨e2, l2, u2⟩ := impl_packed_ev (a.drop 8) (by simp; omega)
    obtain ⟨e3, l3, u3⟩ := impl_packed_ev b h.2
    refine Ev.bind e1 (Ev.bind e2 (Ev.bind e3 (Ev.bind (bytetexts_ev _ (by simp)) (Ev.now' fun _ => ?_))))
    simp only [List.map_cons, List.map_nil]
    rw [show pv (a.take 8) % 256 = pv (a.take 8) by omega, show pv (a.drop 8) % 256 = pv (a.drop 8) by omega, show pv b % 256 = pv b by omega]
  · simp only [decide_eq_false h, if_neg h]
    exact Ev.now' fun _ => rfl

theorem l05_all : ∀ a b c d e f g i : Bool, spec_l05Byte.f 10 [a, b, c, d, e, f, g, i] = some (pv [a, b, c, d, e, f, g, i]) := by decide +kernel
theorem spec_packed_ev (l : List Bool) (h : l.length = 8) : Ev (fun k => spec_l05Byte.f k l) (pv l) := by
  obtain ⟨a, b, c, d, e, f, g, i, rfl⟩ := eight_of h
  exact Ev.of (fun k => spec_l05Byte.mono _ k) (l05_all a b c d e f g i)

theorem spec_bitsok (a b : List Bool) : spec_BitsOk.f a b = some (decide (a.length = 16 ∧ b.length = 8)) := by
  unfold spec_BitsOk.f
  by_cases h1 : a.length = 16
  · by_cases h2 : b.length = 8
    · simp [h1, h2]
    · have : ((b.length : Int) == 8) = false := beq_eq_false_iff_ne.2 (by omega)
      simp [h1, h2, this]
  · have : ¬ (a.length : Int) = 16 := by omega
    simp [h1, this]
theorem spec_bitstext (a b : List Bool) : Ev (fun k => spec_BitsText.f k a b) (BtT a b) := by
  unfold spec_BitsText.f BtT
  simp only [spec_bitsok, Option.bind_some]
  by_cases h : a.length = 16 ∧ b.length = 8
  · simp only [decide_eq_true h, if_true, if_pos h]
    simp only [if_pos (show (8 : Int) ≤ (a.length : Int) by omega)]
    exact Ev.bind (spec_packed_ev (a.take 8) (by simp; omega)) (Ev.bind (spec_packed_ev (a.drop 8) (by simp; omega)) (Ev.bind (spec_packed_ev b h.2) (Ev.now _)))
  · simp only [decide_eq_false h, if_neg h]
    exact Ev.now' fun _ => rfl

/-- The bytes of a number as VarText writes them. -/
def venc (n : Nat) : List Int := if n > 127 then (((n % 128 + 128 : Nat)) : Int) :: venc (n / 128) else [(n : Int)]
termination_by n
decreasing_by omega
theorem venc_length (n : Nat) : (venc n).length ≤ n + 1 := by
  induction n using Nat.strongRecOn with
  | _ n ih =>
    unfold venc
    by_cases h : n > 127
    · rw [if_pos h]
      have := ih (n / 128) (by omega)
      simp only [List.length_cons]
      omega
    · rw [if_neg h]
      simp
theorem vartext_loop (d : Nat) : ∀ (k n : Nat) (l : List Int), n < d → d ≤ k → l.length + n ≤ 1000000000 → impl_VarText.l0 k (n : Int) l = some (strOfNums (l ++ venc n), true) := by
  induction d with
  | zero => intro k n l hd; omega
  | succ d ih =>
    intro k n l hd hk hl
    obtain ⟨k, rfl⟩ : ∃ m, k = m + 1 := ⟨k - 1, by omega⟩
    simp only [impl_VarText.l0]
    unfold venc
    by_cases hb : n > 127
    · have e1 : Int.tdiv (n : Int) 128 = ((n / 128 : Nat) : Int) := by rw [tdiv_nn (by omega)]; omega
      have e3 : (wrap64 (Int.tmod (n : Int) 128 + 128)) % 256 = ((n % 128 + 128 : Nat) : Int) := by
        rw [tmod_nn (by omega), w64 (by omega) (by omega)]
        omega
      rw [if_pos (show (n : Int) > 127 by omega), if_pos (by omega), e1, w64 (by omega) (by omega), e3, ih k (n / 128) _ (by omega) (by omega) (by simp; omega), if_pos hb]
      simp
    · rw [if_neg (show ¬ (n : Int) > 127 by omega), if_pos (by omega), if_neg hb, show (n : Int) % 256 = n by omega]
theorem vartext_ev (n : Nat) (h : n ≤ 1000000000) : Ev (fun k => impl_VarText.f k (n : Int)) (strOfNums (venc n), true) :=
  Ev.at_ (n + 1) (fun k hk => by
    unfold impl_VarText.f
    rw [within_eq, decide_eq_true (by omega)]
    simp only [Option.bind_some, if_true]
    rw [vartext_loop (n + 1) k n [] (by omega) hk (by simp; omega)]
    simp)
theorem shorttext_ev (s : ByteArray) (h : s.size ≤ 20000) : Ev (fun k => impl_ShortText.f k s) (strOfNums (venc s.size) ++ s, true) := by
  unfold impl_ShortText.f
  simp only [if_neg (show ¬ (s.size : Int) > 20000 by omega)]
  have hv := venc_length s.size
  refine Ev.bind (vartext_ev s.size (by omega)) (Ev.now' fun _ => ?_)
  simp only [strOfNums_size]
  rw [if_pos (by omega)]

theorem l01var_loop (d : Nat) : ∀ (k n : Nat) (l : List Int), n < d → d ≤ k → l.length + n ≤ 1000000000 → spec_l01Var.l0 k (n : Int) l = some (strOfNums (l ++ venc n)) := by
  induction d with
  | zero => intro k n l hd; omega
  | succ d ih =>
    intro k n l hd hk hl
    obtain ⟨k, rfl⟩ : ∃ m, k = m + 1 := ⟨k - 1, by omega⟩
    simp only [spec_l01Var.l0]
    unfold venc
    by_cases hb : n > 127
    · have e1 : Int.tdiv (n : Int) 128 = ((n / 128 : Nat) : Int) := by rw [tdiv_nn (by omega)]; omega
      have e3 : (wrap64 (Int.tmod (n : Int) 128 + 128)) % 256 = ((n % 128 + 128 : Nat) : Int) := by
        rw [tmod_nn (by omega), w64 (by omega) (by omega)]
        omega
      rw [if_pos (show (n : Int) > 127 by omega), if_pos (by omega), e1, w64 (by omega) (by omega), e3, ih k (n / 128) _ (by omega) (by omega) (by simp; omega), if_pos hb]
      simp
    · rw [if_neg (show ¬ (n : Int) > 127 by omega), if_pos (by omega), if_neg hb, show (n : Int) % 256 = n by omega]
theorem l01var_ev (n : Nat) (h : n ≤ 1000000000) : Ev (fun k => spec_l01Var.f k (n : Int)) (strOfNums (venc n)) :=
  Ev.at_ (n + 1) (fun k hk => by
    unfold spec_l01Var.f
    rw [l01var_loop (n + 1) k n [] (by omega) hk (by simp; omega)]
    simp)

theorem app_assoc (a b c : ByteArray) : a ++ b ++ c = a ++ (b ++ c) := by
  apply toList_inj
  simp only [Go.Lib.toList_data, ByteArray.data_append, Array.toList_append, List.append_assoc]
/-- A slot's bytes in a block's text. -/
def slotEnc (x : S69) : ByteArray := strOfNums [x.f1 % 256] ++ (strOfNums (venc x.f0.size) ++ x.f0)
theorem slotEnc_size (x : S69) (h : x.f0.size ≤ 6) : (slotEnc x).size ≤ 14 := by
  unfold slotEnc
  have := venc_length x.f0.size
  rw [ByteArray.size_append, ByteArray.size_append, strOfNums_size, strOfNums_size]
  simp only [List.length_singleton]
  omega
/-- What both BlockTexts answer. -/
noncomputable def BT (b : Bool) (l : List S69) (t : ByteArray) : ByteArray × Bool := if dB (BOk b l t) = true then (if b = true then (l.foldl (fun a x => a ++ slotEnc x) ⟨#[100]⟩, true) else ((⟨#[116]⟩ : ByteArray) ++ t, true)) else (⟨#[]⟩, false)
theorem size_of_toList {s : ByteArray} (h : s.toList = ([] : List UInt8)) : s.size = 0 := by
  rw [Go.Lib.toList_data] at h
  have h2 : s.data.toList.length = 0 := by rw [h]; rfl
  rw [Array.length_toList] at h2
  exact h2
theorem BOk_small {b : Bool} {l : List S69} {t : ByteArray} (hn : ∀ x ∈ l, x.f0.size ≤ 140737488351232) (hb : b = true) (h : BOk b l t) : l.length = 4 ∧ ∀ x ∈ l, x.f0.size ≤ 6 := by
  unfold BOk at h
  rw [if_pos hb] at h
  refine ⟨h.2.1, fun x hx => ?_⟩
  obtain ⟨j, hj, e⟩ := List.mem_iff_getElem.1 hx
  have e2 : l.getD j z69 = x := by rw [List.getD_eq_getElem?_getD, List.getElem?_eq_getElem hj, ← e]; rfl
  have := h.1 j hj
  unfold SOk at this
  rw [e2] at this
  rcases this with h1 | h1
  · have := size_of_toList h1.1
    omega
  · exact (name_size _ (hn x hx) h1.1).2
theorem drop_getD (l : List S69) (i : Nat) (h : i < l.length) : l.drop i = l.getD i z69 :: l.drop (i + 1) := by
  rw [List.drop_eq_getElem_cons h, List.getD_eq_getElem?_getD, List.getElem?_eq_getElem h]
  rfl
theorem spec_blocktext_loop (b : Bool) (l : List S69) (t : ByteArray) (hl : l.length = 4) (hs : ∀ x ∈ l, x.f0.size ≤ 6) (d : Nat) : ∀ (i : Nat) (a : ByteArray), i ≤ 4 → 4 - i = d → a.size + 20 * d ≤ 1000 → Ev (fun k => spec_BlockText.l0 k a i b l t) ((l.drop i).foldl (fun a x => a ++ slotEnc x) a, true) := by
  induction d with
  | zero =>
    intro i a h4 hd ha
    rw [List.drop_of_length_le (by omega)]
    exact Ev.last (fun k => by simp only [spec_BlockText.l0]; rw [if_neg (by omega)]; rfl)
  | succ d ih =>
    intro i a h4 hd ha
    have hw : wrap64 ((i : Int) + 1) = ((i + 1 : Nat) : Int) := by rw [w64 (by omega) (by omega)]; omega
    have hx := hs _ (getD_mem (xs := l) (i := i) z69 (by omega))
    have hsz := slotEnc_size _ hx
    have hv := venc_length (l.getD i z69).f0.size
    have hst := ih (i + 1) (a ++ slotEnc (l.getD i z69)) (by omega) (by omega) (by rw [ByteArray.size_append]; omega)
    rw [drop_getD l i (by omega), List.foldl_cons]
    have key : ∀ k, spec_BlockText.l0 (k + 1) a i b l t = (spec_l01Var.f k ((l.getD i z69).f0.size : Int)).bind (fun v => if (a ++ strOfNums [(l.getD i z69).f1 % 256]).size + v.size ≤ 9223372036854775807 then (if ((a ++ strOfNums [(l.getD i z69).f1 % 256]) ++ v).size + (l.getD i z69).f0.size ≤ 9223372036854775807 then spec_BlockText.l0 k (((a ++ strOfNums [(l.getD i z69).f1 % 256]) ++ v) ++ (l.getD i z69).f0) ((i + 1 : Nat) : Int) b l t else none) else none) := fun k => by
      simp only [spec_BlockText.l0, Option.bind_some]
      rw [if_pos (by omega), if_pos (by omega), if_pos (by omega), if_pos (by rw [strOfNums_size]; simp only [List.length_singleton]; omega), hw]
      rfl
    refine Ev.step key (Ev.bind (l01var_ev _ (by omega)) (Ev.congr (fun k => ?_) hst))
    rw [if_pos (by rw [ByteArray.size_append, strOfNums_size, strOfNums_size]; simp only [List.length_singleton]; omega), if_pos (by rw [ByteArray.size_append, ByteArray.size_append, strOfNums_size, strOfNums_size]; simp only [List.length_singleton]; omega)]
    have e : a ++ strOfNums [(l.getD i z69).f1 % 256] ++ strOfNums (venc (l.getD i z69).f0.size) ++ (l.getD i z69).f0 = a ++ slotEnc (l.getD i z69) := by
      unfold slotEnc
      rw [app_assoc, app_assoc]
    rw [e]
theorem spec_blocktext (b : Bool) (l : List S69) (t : ByteArray) (hn : ∀ x ∈ l, x.f0.size ≤ 140737488351232) : Ev (fun k => spec_BlockText.f k b l t) (BT b l t) := by
  unfold spec_BlockText.f BT
  refine Ev.bind (spec_blockok b l t hn) ?_
  by_cases h : dB (BOk b l t) = true
  · simp only [if_pos h]
    by_cases hb : b = true
    · simp only [if_pos hb]
      obtain ⟨h4, hs⟩ := BOk_small hn hb (of_dB h)
      have := spec_blocktext_loop b l t h4 hs 4 0 ⟨#[100]⟩ (by omega) (by omega) (by decide)
      rw [List.drop_zero] at this
      exact this
    · simp only [if_neg hb]
      have h16 := of_dB h
      unfold BOk at h16
      rw [if_neg hb] at h16
      exact Ev.now' fun _ => by rw [if_pos (by omega)]
  · simp only [if_neg h]
    exact Ev.now _
theorem impl_blocktext_loop (l : List S69) (hl : l.length = 4) (hs : ∀ x ∈ l, x.f0.size ≤ 6) (d : Nat) : ∀ (i : Nat) (a : ByteArray), i ≤ 4 → 4 - i = d → a.size + 20 * d ≤ 1000 → Ev (fun k => impl_BlockText.l0 k a l (l.length : Int) i) ((l.drop i).foldl (fun a x => a ++ slotEnc x) a, true) := by
  induction d with
  | zero =>
    intro i a h4 hd ha
    rw [List.drop_of_length_le (by omega)]
    exact Ev.last (fun k => by simp only [impl_BlockText.l0]; rw [if_neg (by omega)]; rfl)
  | succ d ih =>
    intro i a h4 hd ha
    have hw : wrap64 ((i : Int) + 1) = ((i + 1 : Nat) : Int) := by rw [w64 (by omega) (by omega)]; omega
    have hx := hs _ (getD_mem (xs := l) (i := i) z69 (by omega))
    have hsz := slotEnc_size _ hx
    have hv := venc_length (l.getD i z69).f0.size
    have hst := ih (i + 1) (a ++ slotEnc (l.getD i z69)) (by omega) (by omega) (by rw [ByteArray.size_append]; omega)
    rw [drop_getD l i (by omega), List.foldl_cons]
    have key : ∀ k, impl_BlockText.l0 (k + 1) a l (l.length : Int) i = (impl_ShortText.f k (l.getD i z69).f0).bind (fun q => (impl_byteTexts.f k [(l.getD i z69).f1]).bind (fun v => if v.size + q.1.size ≤ 9223372036854775807 then (if a.size + (v ++ q.1).size ≤ 9223372036854775807 then impl_BlockText.l0 k (a ++ (v ++ q.1)) l (l.length : Int) ((i + 1 : Nat) : Int) else none) else none)) := fun k => by
      simp only [impl_BlockText.l0]
      rw [if_pos (by omega), if_pos (by omega), if_pos (by omega), hw]
      rfl
    refine Ev.step key (Ev.bind (shorttext_ev _ (by omega)) (Ev.bind (bytetexts_ev [(l.getD i z69).f1] (by simp)) (Ev.congr (fun k => ?_) hst)))
    have e : strOfNums ([(l.getD i z69).f1].map (· % 256)) ++ (strOfNums (venc (l.getD i z69).f0.size) ++ (l.getD i z69).f0) = slotEnc (l.getD i z69) := rfl
    simp only [e]
    rw [if_pos (by rw [ByteArray.size_append, strOfNums_size, strOfNums_size]; simp only [List.length_map, List.length_singleton]; omega), if_pos (by omega)]
theorem impl_blocktext (b : Bool) (l : List S69) (t : ByteArray) (hl : l.length ≤ 1048576) (hn : ∀ x ∈ l, x.f0.size ≤ 140737488351232) : Ev (fun k => impl_BlockText.f k b l t) (BT b l t) := by
  unfold impl_BlockText.f BT
  refine Ev.bind (impl_blockok b l t hl hn) ?_
  by_cases h : dB (BOk b l t) = true
  · simp only [if_pos h]
    by_cases hb : b = true
    · simp only [if_pos hb]
      obtain ⟨h4, hs⟩ := BOk_small hn hb (of_dB h)
      have := impl_blocktext_loop l h4 hs 4 0 ⟨#[100]⟩ (by omega) (by omega) (by decide)
      rw [List.drop_zero] at this
      exact this
    · simp only [if_neg hb]
      have h16 := of_dB h
      unfold BOk at h16
      rw [if_neg hb] at h16
      exact Ev.now' fun _ => by rw [if_pos (by omega)]
  · simp only [if_neg h]
    exact Ev.now _

/-- What both InodeTexts answer. -/
def IT (x y : Int) (p : List Int) : ByteArray × Bool := if IOk x y p then (strOfNums ((x % 256) :: (y % 256) :: p.map (· % 256)), true) else (⟨#[]⟩, false)
theorem impl_inodetext (x y : Int) (p : List Int) (hp : p.length ≤ 1048576) : Ev (fun k => impl_InodeText.f k x y p) (IT x y p) := by
  unfold impl_InodeText.f IT
  refine Ev.bind (impl_inodeok x y p hp) ?_
  by_cases h : IOk x y p
  · simp only [decide_eq_true h, if_true, if_pos h]
    refine Ev.bind (bytetexts_ev [x, y] (by simp)) (Ev.bind (bytetexts_ev p hp) (Ev.now' fun _ => ?_))
    rw [strOfNums_size, strOfNums_size, if_pos (by simp; omega), strOfNums_append]
    rfl
  · simp only [decide_eq_false h, if_neg h]
    exact Ev.now' fun _ => rfl

theorem spec_inodetext (x y : Int) (p : List Int) : Ev (fun k => spec_InodeText.f k x y p) (IT x y p) := by
  unfold spec_InodeText.f IT
  refine Ev.bind (spec_inodeok x y p) ?_
  by_cases h : IOk x y p
  · obtain ⟨a, b, rfl⟩ := two_of h.2.2.2.2.1
    simp only [decide_eq_true h, if_true, if_pos h]
    exact Ev.now' fun _ => rfl
  · simp only [decide_eq_false h, if_neg h]
    exact Ev.now' fun _ => rfl

/-- What both UnitTexts answer. -/
noncomputable def UT (a b : List Bool) (I : List S105) (B : List S59) (u : Int) : ByteArray × Bool := if dB (DOk a b I B) = true then (if 0 ≤ u ∧ u ≤ 20 then ((if u = 0 then (BtT a b).1 else if u ≤ 4 then (IT (rd_T105 I (2 * u - 2)).f0 (rd_T105 I (2 * u - 2)).f1 (rd_T105 I (2 * u - 2)).f2).1 ++ (IT (rd_T105 I (2 * u - 1)).f0 (rd_T105 I (2 * u - 1)).f1 (rd_T105 I (2 * u - 1)).f2).1 else (BT (rd_T59 B (u - 5)).f0 (rd_T59 B (u - 5)).f1 (rd_T59 B (u - 5)).f2).1), true) else (⟨#[]⟩, false)) else (⟨#[]⟩, false)
theorem IT_size (x y : Int) (p : List Int) : (IT x y p).1.size ≤ 4 := by
  unfold IT
  split
  · rename_i h
    obtain ⟨a, b, rfl⟩ := two_of h.2.2.2.2.1
    simp [strOfNums_size]
  · simp [ByteArray.size]
theorem BT_ok {b : Bool} {l : List S69} {t : ByteArray} (h : BOk b l t) : (BT b l t).2 = true := by
  unfold BT
  rw [dB_true h]
  cases b <;> rfl
theorem impl_unittext (a b : List Bool) (I : List S105) (B : List S59) (u : Int) (h : DLimT a b I B) : Ev (fun k => impl_UnitText.f k a b I B u) (UT a b I B u) := by
  unfold impl_UnitText.f UT
  have no : Ev (fun k => impl_UnitText.j0 k u true a b I B) ((⟨#[]⟩, false) : ByteArray × Bool) := Ev.last fun k => by simp only [impl_UnitText.j0]; rfl
  refine Ev.bind (impl_diskok a b I B h) ?_
  by_cases hok : dB (DOk a b I B) = true
  · obtain ⟨⟨⟨h16, h8⟩, hi8, hb16⟩, hi, hb⟩ := of_dB hok
    simp only [if_pos hok, impl_isUnit.f, within_eq, Option.bind_some]
    by_cases hu : 0 ≤ u ∧ u ≤ 20
    · simp only [decide_eq_true hu, if_pos hu]
      by_cases u0 : u = 0
      · simp only [if_pos u0]
        refine Ev.step (f := fun k => (impl_BitsText.f k a b).bind fun q => some (q.1, q.2)) (fun k => by
          simp only [impl_UnitText.j0]
          rw [if_neg (by decide), if_pos u0]) (Ev.bind (impl_bitstext a b) (Ev.now' fun _ => ?_))
        unfold BtT
        rw [if_pos ⟨h16, h8⟩]
      · by_cases u4 : u ≤ 4
        · simp only [if_neg u0, if_pos u4]
          have w2 : wrap64 (2 * u) = 2 * u := w64 (by omega) (by omega)
          have w3 : wrap64 (2 * u - 2) = 2 * u - 2 := w64 (by omega) (by omega)
          have w4 : wrap64 (2 * u - 1) = 2 * u - 1 := w64 (by omega) (by omega)
          have hm1 : rd_T105 I (2 * u - 2) ∈ I := getD_mem (xs := I) (i := (2 * u - 2).toNat) z105 (by omega)
          have hm2 : rd_T105 I (2 * u - 1) ∈ I := getD_mem (xs := I) (i := (2 * u - 1).toNat) z105 (by omega)
          refine Ev.step (f := fun k => (impl_InodeText.f k (rd_T105 I (2 * u - 2)).f0 (rd_T105 I (2 * u - 2)).f1 (rd_T105 I (2 * u - 2)).f2).bind fun q => (impl_InodeText.f k (rd_T105 I (2 * u - 1)).f0 (rd_T105 I (2 * u - 1)).f1 (rd_T105 I (2 * u - 1)).f2).bind fun p => if q.1.size + p.1.size ≤ 9223372036854775807 then some (q.1 ++ p.1, true) else none) (fun k => by
            simp only [impl_UnitText.j0]
            rw [if_neg (by decide), if_neg u0, if_neg (by omega)]
            simp only [w2, w3, w4, if_pos (show (0 : Int) ≤ 2 * u - 2 by omega), if_pos (show (2 * u - 2 : Int) < (I.length : Int) by omega), if_pos (show (0 : Int) ≤ 2 * u - 1 by omega), if_pos (show (2 * u - 1 : Int) < (I.length : Int) by omega)]) ?_
          refine Ev.bind (impl_inodetext _ _ _ (h.2.1.2 _ hm1)) (Ev.bind (impl_inodetext _ _ _ (h.2.1.2 _ hm2)) (Ev.now' fun _ => ?_))
          have q1 := IT_size (rd_T105 I (2 * u - 2)).f0 (rd_T105 I (2 * u - 2)).f1 (rd_T105 I (2 * u - 2)).f2
          have q2 := IT_size (rd_T105 I (2 * u - 1)).f0 (rd_T105 I (2 * u - 1)).f1 (rd_T105 I (2 * u - 1)).f2
          rw [if_pos (by omega)]
        · simp only [if_neg u0, if_neg u4]
          have w2 : wrap64 (u - 5) = u - 5 := w64 (by omega) (by omega)
          have hm : rd_T59 B (u - 5) ∈ B := getD_mem (xs := B) (i := (u - 5).toNat) z59 (by omega)
          refine Ev.step (f := fun k => (impl_BlockText.f k (rd_T59 B (u - 5)).f0 (rd_T59 B (u - 5)).f1 (rd_T59 B (u - 5)).f2).bind fun q => some (q.1, q.2)) (fun k => by
            simp only [impl_UnitText.j0]
            rw [if_neg (by decide), if_neg u0, if_pos (by omega)]
            simp only [w2, if_pos (show (0 : Int) ≤ u - 5 by omega), if_pos (show (u - 5 : Int) < (B.length : Int) by omega)]) ?_
          refine Ev.bind (impl_blocktext _ _ _ (h.2.2.2 _ hm).1 (BLimT_nm (h.2.2.2 _ hm))) (Ev.now' fun _ => ?_)
          rw [BT_ok (hb _ hm)]
    · simp only [decide_eq_false hu, if_neg hu]
      exact no
  · simp only [if_neg hok]
    exact no

def laws_markBoolS_marks (m : Int) (n : Nat) : List (Bool) := (List.range n).map fun j : Nat => (fun x1 : Int => (Int.tmod x1 3 == 0)) (m + (j : Int))
theorem laws_markBoolS_marks_length (m : Int) (n : Nat) : (laws_markBoolS_marks m n).length = n := by simp [laws_markBoolS_marks]
theorem laws_markBoolS_marks_at (m : Int) (n i : Nat) (h : i < n) (d : Bool) : (laws_markBoolS_marks m n).getD i d = (fun x1 : Int => (Int.tmod x1 3 == 0)) (m + i) := by
  unfold laws_markBoolS_marks
  rw [List.getD_eq_getElem?_getD, List.getElem?_map, List.getElem?_range h]
  rfl
theorem laws_markBoolS_loop (m : Int) (n : Nat) (hn : n ≤ 1048576) (m0 : 0 ≤ m) (m1 : m ≤ 10000000000000) (d : Nat) : ∀ (x : List (Bool)) (i : Nat), x.length = n → i ≤ n → n - i = d → x.take i = (laws_markBoolS_marks m n).take i → Ev (fun k => laws_markBoolS.l0 k x (m + i) (i : Int)) (m + n, laws_markBoolS_marks m n) := by
  induction d with
  | zero =>
    intro x i hx hi hd ht
    obtain rfl : i = n := by omega
    have e : x = laws_markBoolS_marks m i := take_all (by rw [hx, laws_markBoolS_marks_length]) (by rw [laws_markBoolS_marks_length]; exact ht)
    subst e
    exact Ev.last (fun k => by simp only [laws_markBoolS.l0]; rw [if_neg (by omega)])
  | succ d ih =>
    intro x i hx hi hd ht
    have hs := set_take (laws_markBoolS_marks m n) x false i (by rw [laws_markBoolS_marks_length]; omega) (by rw [hx, laws_markBoolS_marks_length]) ht
    rw [laws_markBoolS_marks_at m n i (by omega)] at hs
    refine Ev.step (fun k => ?_) (ih (x.set i ((fun x1 : Int => (Int.tmod x1 3 == 0)) (m + i))) (i + 1) (by rw [List.length_set]; exact hx) (by omega) (by omega) hs)
    simp only [laws_markBoolS.l0]
    rw [if_pos (by omega), if_pos (by omega), w64 (x := m + i + 1) (by omega) (by omega), w64 (x := (i : Int) + 1) (by omega) (by omega), Int.toNat_natCast, show m + (i : Int) + 1 = m + ((i + 1 : Nat) : Int) by omega, show (i : Int) + 1 = ((i + 1 : Nat) : Int) by omega]
theorem laws_markBoolS_ev (l : List (Bool)) (m : Int) (hn : l.length ≤ 1048576) (m0 : 0 ≤ m) (m1 : m ≤ 10000000000000) : Ev (fun k => laws_markBoolS.f k l m) (m + l.length, laws_markBoolS_marks m l.length) := by
  have h := laws_markBoolS_loop m l.length hn m0 m1 l.length l 0 rfl (by omega) (by omega) (by simp)
  refine Ev.congr (fun k => ?_) h
  unfold laws_markBoolS.f
  simp

theorem markBits_ev (a b : List Bool) (ha : a.length ≤ 1048576) (hb : b.length ≤ 1048576) : Ev (fun k => laws_markBits.f k a b 1) (1 + a.length + b.length, laws_markBoolS_marks 1 a.length, laws_markBoolS_marks (1 + a.length) b.length) := by
  unfold laws_markBits.f
  exact Ev.bind (laws_markBoolS_ev a 1 ha (by omega) (by omega)) (Ev.bind (laws_markBoolS_ev b (1 + a.length) hb (by omega) (by omega)) (Ev.now _))

def laws_markIntS_marks (m : Int) (n : Nat) : List (Int) := (List.range n).map fun j : Nat => (fun x1 : Int => x1) (m + (j : Int))
theorem laws_markIntS_marks_length (m : Int) (n : Nat) : (laws_markIntS_marks m n).length = n := by simp [laws_markIntS_marks]
theorem laws_markIntS_marks_at (m : Int) (n i : Nat) (h : i < n) (d : Int) : (laws_markIntS_marks m n).getD i d = (fun x1 : Int => x1) (m + i) := by
  unfold laws_markIntS_marks
  rw [List.getD_eq_getElem?_getD, List.getElem?_map, List.getElem?_range h]
  rfl
theorem laws_markIntS_loop (m : Int) (n : Nat) (hn : n ≤ 1048576) (m0 : 0 ≤ m) (m1 : m ≤ 10000000000000) (d : Nat) : ∀ (x : List (Int)) (i : Nat), x.length = n → i ≤ n → n - i = d → x.take i = (laws_markIntS_marks m n).take i → Ev (fun k => laws_markIntS.l0 k x (m + i) (i : Int)) (m + n, laws_markIntS_marks m n) := by
  induction d with
  | zero =>
    intro x i hx hi hd ht
    obtain rfl : i = n := by omega
    have e : x = laws_markIntS_marks m i := take_all (by rw [hx, laws_markIntS_marks_length]) (by rw [laws_markIntS_marks_length]; exact ht)
    subst e
    exact Ev.last (fun k => by simp only [laws_markIntS.l0]; rw [if_neg (by omega)])
  | succ d ih =>
    intro x i hx hi hd ht
    have hs := set_take (laws_markIntS_marks m n) x 0 i (by rw [laws_markIntS_marks_length]; omega) (by rw [hx, laws_markIntS_marks_length]) ht
    rw [laws_markIntS_marks_at m n i (by omega)] at hs
    refine Ev.step (fun k => ?_) (ih (x.set i ((fun x1 : Int => x1) (m + i))) (i + 1) (by rw [List.length_set]; exact hx) (by omega) (by omega) hs)
    simp only [laws_markIntS.l0]
    rw [if_pos (by omega), if_pos (by omega), w64 (x := m + i + 1) (by omega) (by omega), w64 (x := (i : Int) + 1) (by omega) (by omega), Int.toNat_natCast, show m + (i : Int) + 1 = m + ((i + 1 : Nat) : Int) by omega, show (i : Int) + 1 = ((i + 1 : Nat) : Int) by omega]
theorem laws_markIntS_ev (l : List (Int)) (m : Int) (hn : l.length ≤ 1048576) (m0 : 0 ≤ m) (m1 : m ≤ 10000000000000) : Ev (fun k => laws_markIntS.f k l m) (m + l.length, laws_markIntS_marks m l.length) := by
  have h := laws_markIntS_loop m l.length hn m0 m1 l.length l 0 rfl (by omega) (by omega) (by simp)
  refine Ev.congr (fun k => ?_) h
  unfold laws_markIntS.f
  simp

theorem marktext_loop (d : Nat) : ∀ (x : Int) (s : ByteArray), x < 10 ^ d → 0 ≤ x → x ≤ 9000000000000000000 → s.size + d ≤ 4000000000 → ∃ t, Ev (fun k => laws_markText.l0 k x s) t := by
  induction d with
  | zero =>
    intro x s h h0 hz hs
    exact ⟨_, Ev.last (fun k => by simp only [laws_markText.l0]; rw [if_neg (by omega), if_pos (by omega)])⟩
  | succ d ih =>
    intro x s h h0 hz hs
    by_cases hx : x > 0
    · rw [Int.pow_succ] at h
      have hd : x / 10 < 10 ^ d := by
        generalize (10 : Int) ^ d = p at h ⊢
        omega
      obtain ⟨t, ht⟩ := ih (x / 10) (strOfNums [(wrap64 (48 + (Int.tmod x 10))) % 256] ++ s) hd (by omega) (by omega) (by rw [ByteArray.size_append, strOfNums_size]; simp; omega)
      refine ⟨t, Ev.step (fun k => ?_) ht⟩
      simp only [laws_markText.l0, Option.bind_some]
      rw [if_pos hx, if_pos (by rw [strOfNums_size]; simp; omega), tdiv_nn h0, w64 (by omega) (by omega)]
    · exact ⟨_, Ev.last (fun k => by simp only [laws_markText.l0]; rw [if_neg hx, if_pos (by omega)])⟩
theorem marktext_some (m : Int) (m1 : m ≤ 11000000000000) : ∃ t, Ev (fun k => laws_markText.f k m) t := by
  unfold laws_markText.f
  by_cases h : m ≤ 0
  · exact ⟨_, Ev.now' fun k => by rw [if_pos h]⟩
  · obtain ⟨t, ht⟩ := marktext_loop 14 m ⟨#[]⟩ (by omega) (by omega) (by omega) (by simp [ByteArray.size])
    exact ⟨t, Ev.congr (fun k => by rw [if_neg h]) ht⟩
/-- The text of a mark. -/
noncomputable def mt (m : Int) : ByteArray := @Classical.epsilon ByteArray ⟨⟨#[]⟩⟩ (fun t => Ev (fun k => laws_markText.f k m) t)
theorem mt_ev (m : Int) (m1 : m ≤ 11000000000000) : Ev (fun k => laws_markText.f k m) (mt m) := Classical.epsilon_spec (marktext_some m m1)

noncomputable def slm (m : Int) (n : Nat) : List S69 := (List.range n).map fun j : Nat => (⟨mt (m + 2 * (j : Int)), m + 2 * (j : Int) + 1⟩ : S69)
theorem slm_length (m : Int) (n : Nat) : (slm m n).length = n := by simp [slm]
theorem slm_at (m : Int) (n i : Nat) (h : i < n) (d : S69) : (slm m n).getD i d = ⟨mt (m + 2 * (i : Int)), m + 2 * (i : Int) + 1⟩ := by
  unfold slm
  rw [List.getD_eq_getElem?_getD, List.getElem?_map, List.getElem?_range h]
  rfl
theorem markSl_loop (m : Int) (n : Nat) (hn : n ≤ 1048576) (m0 : 0 ≤ m) (m1 : m ≤ 10000000000000) (d : Nat) : ∀ (x : List S69) (i : Nat), x.length = n → i ≤ n → n - i = d → x.take i = (slm m n).take i → Ev (fun k => laws_markSlotS.l0 k x (m + 2 * i) (i : Int)) (m + 2 * n, slm m n) := by
  induction d with
  | zero =>
    intro x i hx hi hd ht
    obtain rfl : i = n := by omega
    have e : x = slm m i := take_all (by rw [hx, slm_length]) (by rw [slm_length]; exact ht)
    subst e
    exact Ev.last (fun k => by simp only [laws_markSlotS.l0]; rw [if_neg (by omega)])
  | succ d ih =>
    intro x i hx hi hd ht
    have hs := set_take (slm m n) x z69 i (by rw [slm_length]; omega) (by rw [hx, slm_length]) ht
    rw [slm_at m n i (by omega)] at hs
    have e2 : ∀ t : ByteArray, (rd_T69 (x.set i (⟨t, (rd_T69 x (i : Int)).f1⟩ : S69)) (i : Int)).f0 = t := fun t => by
      show ((x.set i (⟨t, (rd_T69 x (i : Int)).f1⟩ : S69)).getD i z69).f0 = t
      rw [List.getD_eq_getElem?_getD, List.getElem?_set_self (by omega)]
      rfl
    refine Ev.step (f := fun k => (laws_markText.f k (m + 2 * i)).bind fun t => laws_markSlotS.l0 k (x.set i ⟨t, m + 2 * i + 1⟩) (m + 2 * ((i + 1 : Nat) : Int)) ((i + 1 : Nat) : Int)) (fun k => ?_) (Ev.bind (mt_ev (m + 2 * (i : Int)) (by omega)) (ih (x.set i ⟨mt (m + 2 * (i : Int)), m + 2 * (i : Int) + 1⟩) (i + 1) (by rw [List.length_set]; exact hx) (by omega) (by omega) hs))
    simp only [laws_markSlotS.l0, Option.bind_some, Int.toNat_natCast, e2, List.set_set]
    rw [if_pos (by omega), w64 (x := m + 2 * i + 1) (by omega) (by omega), w64 (x := m + 2 * i + 1 + 1) (by omega) (by omega), w64 (x := (i : Int) + 1) (by omega) (by omega), show m + 2 * (i : Int) + 1 + 1 = m + 2 * ((i + 1 : Nat) : Int) by omega, show (i : Int) + 1 = ((i + 1 : Nat) : Int) by omega]
    simp only [if_pos (show (0 : Int) ≤ (i : Int) by omega)]
theorem markSl_ev (l : List S69) (m : Int) (hn : l.length ≤ 1048576) (m0 : 0 ≤ m) (m1 : m ≤ 10000000000000) : Ev (fun k => laws_markSlotS.f k l m) (m + 2 * l.length, slm m l.length) := by
  have h := markSl_loop m l.length hn m0 m1 l.length l 0 rfl (by omega) (by omega) (by simp)
  refine Ev.congr (fun k => ?_) h
  unfold laws_markSlotS.f
  simp

theorem mem_set_or {α : Type} {xs : List α} {i : Nat} {y x : α} (h : x ∈ xs.set i y) : x ∈ xs ∨ x = y := (List.mem_or_eq_of_mem_set h)
/-- The marks into a row of inodes end. -/
theorem markI_loop (n : Nat) (hn : n ≤ 1048576) (d : Nat) : ∀ (x : List S105) (m : Int) (i : Nat), x.length = n → i ≤ n → n - i = d → (∀ y ∈ x, y.f2.length ≤ 1048576) → 0 ≤ m → m ≤ 3000000 + 1048578 * (i : Int) → ∃ r rs, Ev (fun k => laws_markInodeS.l0 k x m (i : Int)) (r, rs) ∧ 0 ≤ r ∧ r ≤ 1200000000000 := by
  induction d with
  | zero =>
    intro x m i hx hi hd hy h0 h1
    exact ⟨m, x, Ev.last (fun k => by simp only [laws_markInodeS.l0]; rw [if_neg (by omega)]), h0, by omega⟩
  | succ d ih =>
    intro x m i hx hi hd hy h0 h1
    have hm : rd_T105 x (i : Int) ∈ x := getD_mem (xs := x) (i := ((i : Nat) : Int).toNat) z105 (by omega)
    have hl := hy _ hm
    have w1 : wrap64 (wrap64 (m + 1) + 1) = m + 2 := by rw [w64 (x := m + 1) (by omega) (by omega), w64 (by omega) (by omega)]; omega
    have w2 : wrap64 ((i : Int) + 1) = ((i + 1 : Nat) : Int) := by rw [w64 (by omega) (by omega)]; omega
    obtain ⟨r, rs, he, r0, r1⟩ := ih (x.set i ⟨m, wrap64 (m + 1), laws_markIntS_marks (m + 2) (rd_T105 x (i : Int)).f2.length⟩) (m + 2 + ((rd_T105 x (i : Int)).f2.length : Int)) (i + 1) (by rw [List.length_set]; exact hx) (by omega) (by omega) (fun y h => by
      rcases mem_set_or h with h | rfl
      · exact hy y h
      · rw [laws_markIntS_marks_length]; exact hl) (by omega) (by omega)
    refine ⟨r, rs, Ev.step (f := fun k => (laws_markIntS.f k (rd_T105 x (i : Int)).f2 (m + 2)).bind fun bt => laws_markInodeS.l0 k (x.set i ⟨m, wrap64 (m + 1), bt.2⟩) bt.1 ((i + 1 : Nat) : Int)) (fun k => ?_) (Ev.bind (laws_markIntS_ev (rd_T105 x (i : Int)).f2 (m + 2) hl (by omega) (by omega)) he), r0, r1⟩
    simp only [laws_markInodeS.l0]
    rw [if_pos (by omega), if_pos (by omega), w1, w2, Int.toNat_natCast]
theorem markI_ev (x : List S105) (m : Int) (hx : x.length ≤ 1048576) (hy : ∀ y ∈ x, y.f2.length ≤ 1048576) (h0 : 0 ≤ m) (h1 : m ≤ 3000000) : ∃ r rs, Ev (fun k => laws_markInodeS.f k x m) (r, rs) ∧ 0 ≤ r ∧ r ≤ 1200000000000 := by
  have h := markI_loop x.length hx x.length x m 0 rfl (by omega) (by omega) hy h0 (by omega)
  exact h
/-- The marks into a row of blocks end. -/
theorem markB_loop (n : Nat) (hn : n ≤ 1048576) (d : Nat) : ∀ (x : List S59) (m : Int) (i : Nat), x.length = n → i ≤ n → n - i = d → (∀ y ∈ x, y.f1.length ≤ 1048576) → 0 ≤ m → m ≤ 1200000000000 + 2097154 * (i : Int) → ∃ r rs, Ev (fun k => laws_markBlockS.l0 k x m (i : Int)) (r, rs) ∧ 0 ≤ r := by
  induction d with
  | zero =>
    intro x m i hx hi hd hy h0 h1
    exact ⟨m, x, Ev.last (fun k => by simp only [laws_markBlockS.l0]; rw [if_neg (by omega)]), h0⟩
  | succ d ih =>
    intro x m i hx hi hd hy h0 h1
    have hm : rd_T59 x (i : Int) ∈ x := getD_mem (xs := x) (i := ((i : Nat) : Int).toNat) z59 (by omega)
    have hl := hy _ hm
    have w1 : wrap64 (m + 1) = m + 1 := w64 (by omega) (by omega)
    have w2 : wrap64 ((i : Int) + 1) = ((i + 1 : Nat) : Int) := by rw [w64 (by omega) (by omega)]; omega
    have w3 : wrap64 (m + 1 + 2 * ((rd_T59 x (i : Int)).f1.length : Int) + 1) = m + 2 + 2 * ((rd_T59 x (i : Int)).f1.length : Int) := by rw [w64 (by omega) (by omega)]; omega
    obtain ⟨r, rs, he, r0⟩ := ih (x.set i ⟨Int.tmod m 3 == 0, slm (m + 1) (rd_T59 x (i : Int)).f1.length, mt (m + 1 + 2 * ((rd_T59 x (i : Int)).f1.length : Int))⟩) (m + 2 + 2 * ((rd_T59 x (i : Int)).f1.length : Int)) (i + 1) (by rw [List.length_set]; exact hx) (by omega) (by omega) (fun y h => by
      rcases mem_set_or h with h | rfl
      · exact hy y h
      · rw [slm_length]; exact hl) (by omega) (by omega)
    refine ⟨r, rs, Ev.step (f := fun k => (laws_markSlotS.f k (rd_T59 x (i : Int)).f1 (m + 1)).bind fun bt => (laws_markText.f k bt.1).bind fun t => laws_markBlockS.l0 k (x.set i ⟨Int.tmod m 3 == 0, bt.2, t⟩) (wrap64 (bt.1 + 1)) ((i + 1 : Nat) : Int)) (fun k => ?_) (Ev.bind (markSl_ev (rd_T59 x (i : Int)).f1 (m + 1) hl (by omega) (by omega)) (Ev.bind (mt_ev _ (by omega)) (Ev.congr (fun k => by rw [w3]) he))), r0⟩
    simp only [laws_markBlockS.l0]
    rw [if_pos (by omega), if_pos (by omega), w1, w2, Int.toNat_natCast]
theorem markB_ev (x : List S59) (m : Int) (hx : x.length ≤ 1048576) (hy : ∀ y ∈ x, y.f1.length ≤ 1048576) (h0 : 0 ≤ m) (h1 : m ≤ 1200000000000) : ∃ r rs, Ev (fun k => laws_markBlockS.f k x m) (r, rs) ∧ 0 ≤ r := by
  have h := markB_loop x.length hx x.length x m 0 rfl (by omega) (by omega) hy h0 (by omega)
  exact h

noncomputable def sm (m : Int) (n : Nat) : List ByteArray := (List.range n).map fun j : Nat => mt (m + (j : Int))
theorem sm_length (m : Int) (n : Nat) : (sm m n).length = n := by simp [sm]
theorem sm_at (m : Int) (n i : Nat) (h : i < n) (d : ByteArray) : (sm m n).getD i d = mt (m + (i : Int)) := by
  unfold sm
  rw [List.getD_eq_getElem?_getD, List.getElem?_map, List.getElem?_range h]
  rfl
theorem markS_loop (m : Int) (n : Nat) (hn : n ≤ 1048576) (m0 : 0 ≤ m) (m1 : m ≤ 10000000000000) (d : Nat) : ∀ (x : List ByteArray) (i : Nat), x.length = n → i ≤ n → n - i = d → x.take i = (sm m n).take i → Ev (fun k => laws_markStringS.l0 k x (m + i) (i : Int)) (m + n, sm m n) := by
  induction d with
  | zero =>
    intro x i hx hi hd ht
    obtain rfl : i = n := by omega
    have e : x = sm m i := take_all (by rw [hx, sm_length]) (by rw [sm_length]; exact ht)
    subst e
    exact Ev.last (fun k => by simp only [laws_markStringS.l0]; rw [if_neg (by omega)])
  | succ d ih =>
    intro x i hx hi hd ht
    have hs := set_take (sm m n) x ByteArray.empty i (by rw [sm_length]; omega) (by rw [hx, sm_length]) ht
    rw [sm_at m n i (by omega)] at hs
    refine Ev.step (f := fun k => (laws_markText.f k (m + i)).bind fun t => laws_markStringS.l0 k (x.set i t) (m + ((i + 1 : Nat) : Int)) ((i + 1 : Nat) : Int)) (fun k => ?_) (Ev.bind (mt_ev (m + (i : Int)) (by omega)) (ih (x.set i (mt (m + (i : Int)))) (i + 1) (by rw [List.length_set]; exact hx) (by omega) (by omega) hs))
    simp only [laws_markStringS.l0]
    rw [if_pos (by omega), w64 (x := m + i + 1) (by omega) (by omega), w64 (x := (i : Int) + 1) (by omega) (by omega), Int.toNat_natCast, show m + (i : Int) + 1 = m + ((i + 1 : Nat) : Int) by omega, show (i : Int) + 1 = ((i + 1 : Nat) : Int) by omega]
    simp only [if_pos (show (0 : Int) ≤ (i : Int) by omega)]
theorem markS_ev (l : List ByteArray) (m : Int) (hn : l.length ≤ 1048576) (m0 : 0 ≤ m) (m1 : m ≤ 10000000000000) : Ev (fun k => laws_markStringS.f k l m) (m + l.length, sm m l.length) := by
  have h := markS_loop m l.length hn m0 m1 l.length l 0 rfl (by omega) (by omega) (by simp)
  refine Ev.congr (fun k => ?_) h
  unfold laws_markStringS.f
  simp
theorem heldS_loop (m : Int) (n : Nat) (hn : n ≤ 1048576) (m0 : 0 ≤ m) (m1 : m ≤ 10000000000000) (d : Nat) : ∀ (i : Nat), i ≤ n → n - i = d → Ev (fun k => laws_heldStringS.l0 k (sm m n) (m + i) (i : Int)) (m + n) := by
  induction d with
  | zero =>
    intro i hi hd
    obtain rfl : i = n := by omega
    exact Ev.last (fun k => by simp only [laws_heldStringS.l0, sm_length]; rw [if_neg (by omega)])
  | succ d ih =>
    intro i hi hd
    have e : rdOf ByteArray.empty (sm m n) (i : Int) = mt (m + (i : Int)) := sm_at m n i (by omega) _
    refine Ev.step (f := fun k => (laws_markText.f k (m + i)).bind fun t => if (mt (m + (i : Int))).toList = t.toList then laws_heldStringS.l0 k (sm m n) (m + ((i + 1 : Nat) : Int)) ((i + 1 : Nat) : Int) else some (-1)) (fun k => ?_) ?_
    · simp only [laws_heldStringS.l0, sm_length, e]
      rw [if_pos (by omega), if_pos (by omega), w64 (x := m + i + 1) (by omega) (by omega), w64 (x := (i : Int) + 1) (by omega) (by omega), show m + (i : Int) + 1 = m + ((i + 1 : Nat) : Int) by omega, show (i : Int) + 1 = ((i + 1 : Nat) : Int) by omega]
    · refine Ev.bind (mt_ev (m + (i : Int)) (by omega)) ?_
      simp only [if_true]
      exact ih (i + 1) (by omega) (by omega)
theorem heldS_ev (m : Int) (n : Nat) (hn : n ≤ 1048576) (m0 : 0 ≤ m) (m1 : m ≤ 10000000000000) : Ev (fun k => laws_heldStringS.f k (sm m n) m) (m + n) := by
  have h := heldS_loop m n hn m0 m1 n 0 (by omega) (by omega)
  refine Ev.congr (fun k => ?_) h
  unfold laws_heldStringS.f
  simp

theorem markDevice_ev (l : List ByteArray) (hn : l.length ≤ 1048576) : Ev (fun k => laws_markDevice.f k l 1) (1 + l.length, sm 1 l.length) := by
  unfold laws_markDevice.f
  exact Ev.bind (markS_ev l 1 hn (by omega) (by omega)) (Ev.now _)
theorem heldDevice_ev (n : Nat) (hn : n ≤ 1048576) : Ev (fun k => laws_heldDevice.f k (sm 1 n) 1) (1 + n) := by
  unfold laws_heldDevice.f
  exact Ev.bind (heldS_ev 1 n hn (by omega) (by omega)) (Ev.now' fun _ => by rw [if_neg (by omega)])

theorem laws_eqStringS_loop (l : List (ByteArray)) (hl : l.length ≤ 1048576) (d : Nat) : ∀ (i : Int), 0 ≤ i → i ≤ l.length → (l.length : Int) - i = d → Ev (fun k => laws_eqStringS.l0 k l l i) true := by
  induction d with
  | zero =>
    intro i h0 h1 hd
    exact Ev.last (fun k => by simp only [laws_eqStringS.l0]; rw [if_neg (by omega)])
  | succ d ih =>
    intro i h0 h1 hd
    have hw : wrap64 (i + 1) = i + 1 := w64 (by omega) (by omega)
    refine Ev.step (fun k => ?_) (ih (i + 1) (by omega) (by omega) (by omega))
    simp only [laws_eqStringS.l0]
    rw [if_pos (by omega), if_pos h0, if_pos (by omega), hw]
    simp
theorem laws_eqStringS_refl (l : List (ByteArray)) (hl : l.length ≤ 1048576) : Ev (fun k => laws_eqStringS.f k l l) true := by
  refine Ev.congr (fun k => ?_) (laws_eqStringS_loop l hl l.length 0 (by omega) (by omega) (by omega))
  unfold laws_eqStringS.f
  rw [if_pos rfl]

theorem spec_unit (a b : List Bool) (I : List S105) (B : List S59) (u : Int) (h : DLimT a b I B) (hok : dB (DOk a b I B) = true) (hu : 0 ≤ u ∧ u ≤ 20) : Ev (fun k => spec_l07Unit.f k a b I B u) (UT a b I B u).1 := by
  obtain ⟨⟨⟨h16, h8⟩, hi8, hb16⟩, hi, hb⟩ := of_dB hok
  unfold spec_l07Unit.f UT
  simp only [if_pos hok, if_pos hu]
  by_cases u0 : u = 0
  · simp only [if_pos u0]
    exact Ev.bind (spec_bitstext a b) (Ev.now _)
  · by_cases u4 : u ≤ 4
    · simp only [if_neg u0, if_pos u4]
      have w2 : wrap64 (2 * u) = 2 * u := w64 (by omega) (by omega)
      have w3 : wrap64 (2 * u - 2) = 2 * u - 2 := w64 (by omega) (by omega)
      have w4 : wrap64 (2 * u - 1) = 2 * u - 1 := w64 (by omega) (by omega)
      simp only [w2, w3, w4, if_pos (show (0 : Int) ≤ 2 * u - 2 by omega), if_pos (show (2 * u - 2 : Int) < (I.length : Int) by omega), if_pos (show (0 : Int) ≤ 2 * u - 1 by omega), if_pos (show (2 * u - 1 : Int) < (I.length : Int) by omega)]
      refine Ev.bind (spec_inodetext _ _ _) (Ev.bind (spec_inodetext _ _ _) (Ev.now' fun _ => ?_))
      have q1 := IT_size (rd_T105 I (2 * u - 2)).f0 (rd_T105 I (2 * u - 2)).f1 (rd_T105 I (2 * u - 2)).f2
      have q2 := IT_size (rd_T105 I (2 * u - 1)).f0 (rd_T105 I (2 * u - 1)).f1 (rd_T105 I (2 * u - 1)).f2
      rw [if_pos (by omega)]
    · simp only [if_neg u0, if_neg u4]
      have w2 : wrap64 (u - 5) = u - 5 := w64 (by omega) (by omega)
      have hm : rd_T59 B (u - 5) ∈ B := getD_mem (xs := B) (i := (u - 5).toNat) z59 (by omega)
      simp only [w2, if_pos (show (0 : Int) ≤ u - 5 by omega), if_pos (show (u - 5 : Int) < (B.length : Int) by omega)]
      exact Ev.bind (spec_blocktext _ _ _ (BLimT_nm (h.2.2.2 _ hm))) (Ev.now _)
/-- The first n units. -/
noncomputable def DV (a b : List Bool) (I : List S105) (B : List S59) (n : Nat) : List ByteArray := (List.range n).map fun u : Nat => (UT a b I B (u : Int)).1
theorem DV_length (a b : List Bool) (I : List S105) (B : List S59) (n : Nat) : (DV a b I B n).length = n := by simp [DV]
theorem DV_succ (a b : List Bool) (I : List S105) (B : List S59) (n : Nat) : DV a b I B n ++ [(UT a b I B (n : Int)).1] = DV a b I B (n + 1) := by simp [DV, List.range_succ]
theorem spec_dev_loop (a b : List Bool) (I : List S105) (B : List S59) (h : DLimT a b I B) (hok : dB (DOk a b I B) = true) (d : Nat) : ∀ i : Nat, i ≤ 21 → 21 - i = d → Ev (fun k => spec_DeviceOf.l0 k (i : Int) a b I B (DV a b I B i)) (DV a b I B 21, true) := by
  induction d with
  | zero =>
    intro i hi hd
    obtain rfl : i = 21 := by omega
    exact Ev.last (fun k => by simp only [spec_DeviceOf.l0]; rw [if_neg (by omega)])
  | succ d ih =>
    intro i hi hd
    have hw : wrap64 ((i : Int) + 1) = ((i + 1 : Nat) : Int) := by rw [w64 (by omega) (by omega)]; omega
    refine Ev.step (f := fun k => (spec_l07Unit.f k a b I B (i : Int)).bind fun t => spec_DeviceOf.l0 k ((i + 1 : Nat) : Int) a b I B (DV a b I B i ++ [t])) (fun k => ?_) (Ev.bind (spec_unit a b I B i h hok (by omega)) ?_)
    · simp only [spec_DeviceOf.l0, DV_length]
      rw [if_pos (by omega), hw]
      simp only [if_pos (show i < 8796093022208 by omega)]
    · rw [DV_succ]
      exact ih (i + 1) (by omega) (by omega)
theorem impl_dev_loop (a b : List Bool) (I : List S105) (B : List S59) (h : DLimT a b I B) (d : Nat) : ∀ i : Nat, i ≤ 21 → 21 - i = d → Ev (fun k => impl_DeviceOf.l0 k (i : Int) a b I B (DV a b I B i)) (DV a b I B 21, true) := by
  induction d with
  | zero =>
    intro i hi hd
    obtain rfl : i = 21 := by omega
    exact Ev.last (fun k => by simp only [impl_DeviceOf.l0]; rw [if_neg (by omega)])
  | succ d ih =>
    intro i hi hd
    have hw : wrap64 ((i : Int) + 1) = ((i + 1 : Nat) : Int) := by rw [w64 (by omega) (by omega)]; omega
    refine Ev.step (f := fun k => (impl_UnitText.f k a b I B (i : Int)).bind fun t => impl_DeviceOf.l0 k ((i + 1 : Nat) : Int) a b I B (DV a b I B i ++ [t.1])) (fun k => ?_) (Ev.bind (impl_unittext a b I B i h) ?_)
    · simp only [impl_DeviceOf.l0, DV_length]
      rw [if_pos (by omega), hw]
      simp only [if_pos (show i < 8796093022208 by omega)]
    · rw [DV_succ]
      exact ih (i + 1) (by omega) (by omega)
/-- Both DeviceOfs answer the same. -/
theorem dev_ev (a b : List Bool) (I : List S105) (B : List S59) (h : DLimT a b I B) : ∃ ws ok, ws.length ≤ 1048576 ∧ Ev (fun k => spec_DeviceOf.f k a b I B) (ws, ok) ∧ Ev (fun k => impl_DeviceOf.f k a b I B) (ws, ok) := by
  unfold spec_DeviceOf.f impl_DeviceOf.f
  by_cases hok : dB (DOk a b I B) = true
  · refine ⟨DV a b I B 21, true, by rw [DV_length]; omega, Ev.bind (spec_diskok a b I B h) (Ev.congr (fun k => by rw [if_pos hok]; rfl) (spec_dev_loop a b I B h hok 21 0 (by omega) (by omega))), Ev.bind (impl_diskok a b I B h) (Ev.congr (fun k => by rw [if_pos hok]; rfl) (impl_dev_loop a b I B h 21 0 (by omega) (by omega)))⟩
  · exact ⟨[], false, by simp, Ev.bind (spec_diskok a b I B h) (Ev.now' fun k => by rw [if_neg hok]), Ev.bind (impl_diskok a b I B h) (Ev.now' fun k => by rw [if_neg hok])⟩
/-- ALL THAT THE WALK ASKS, AT ONE NUMBER OF ROUNDS. -/
theorem facts (a b : List Bool) (I : List S142) (B : List S54) (hg : good28 ⟨⟨a, b⟩, I, B⟩) : ∃ (k : Nat) (left : Int), laws_szDisk.f k a b I B 1048576 = some left ∧ (left < 0 ∨ (0 ≤ left ∧ ∃ (t0 t1 : List Bool) (t2 : List S105) (t3 : List S59) (ws : List ByteArray) (b1 : Bool) (m1 m2 m : Int) (r0 r1 : List Bool) (r2 : List S105) (r3 : List S59) (d : Int) (rs : List ByteArray),
    laws_toDisk.f k a b I B = some (t0, t1, t2, t3) ∧ spec_DeviceOf.f k t0 t1 t2 t3 = some (ws, b1) ∧ impl_DeviceOf.f k t0 t1 t2 t3 = some (ws, b1) ∧ laws_eqDevice.f k ws ws = some true ∧ laws_eqDisk.f k t0 t1 t2 t3 t0 t1 t2 t3 = some true ∧
    laws_markBits.f k t0 t1 1 = some (m1, r0, r1) ∧ laws_markInodeS.f k t2 m1 = some (m2, r2) ∧ laws_markBlockS.f k t3 m2 = some (m, r3) ∧ 0 ≤ m ∧
    laws_markDevice.f k ws 1 = some (d, rs) ∧ rs.length = ws.length ∧ laws_heldDevice.f k rs 1 = some d ∧ 0 ≤ d)) := by
  obtain ⟨left, hr, _, hlim⟩ := szDisk_ev a b I B 1048576 hg (by omega) (by omega)
  by_cases hneg : left < 0
  · obtain ⟨K, h⟩ := hr
    exact ⟨K, left, h K (by omega), .inl hneg⟩
  · have h := hlim (by omega)
    have hT := DLim_cv h
    have e1 := toDisk_ev a b I B h
    generalize I.map cvI = J at hT e1
    generalize B.map cvB = C at hT e1
    obtain ⟨ws, ok, hws, e2, e3⟩ := dev_ev a b J C hT
    have e4 : Ev (fun k => laws_eqDevice.f k ws ws) true := by
      unfold laws_eqDevice.f
      exact Ev.bind (laws_eqStringS_refl ws hws) (Ev.now _)
    have e5 := eqDisk_ev a b J C hT
    obtain ⟨⟨ha, hb⟩, ⟨hJ, hj⟩, hC, hc⟩ := hT
    have e6 := markBits_ev a b ha hb
    obtain ⟨m2, r2, e7, p0, p1⟩ := markI_ev J (1 + a.length + b.length) hJ hj (by omega) (by omega)
    obtain ⟨m, r3, e8, q0⟩ := markB_ev C m2 hC (fun y hy => (hc y hy).1) p0 p1
    have e9 := markDevice_ev ws hws
    have e10 := heldDevice_ev ws.length hws
    obtain ⟨K0, h0⟩ := hr
    obtain ⟨K1, h1⟩ := e1
    obtain ⟨K2, h2⟩ := e2
    obtain ⟨K3, h3⟩ := e3
    obtain ⟨K4, h4⟩ := e4
    obtain ⟨K5, h5⟩ := e5
    obtain ⟨K6, h6⟩ := e6
    obtain ⟨K7, h7⟩ := e7
    obtain ⟨K8, h8⟩ := e8
    obtain ⟨K9, h9⟩ := e9
    obtain ⟨K10, h10⟩ := e10
    exact ⟨K0 + K1 + K2 + K3 + K4 + K5 + K6 + K7 + K8 + K9 + K10, left, h0 _ (by omega), .inr ⟨by omega, a, b, J, C, ws, ok, _, m2, m, _, _, r2, r3, _, _, h1 _ (by omega), h2 _ (by omega), h3 _ (by omega), h4 _ (by omega), h5 _ (by omega), h6 _ (by omega), h7 _ (by omega), h8 _ (by omega), q0, h9 _ (by omega), sm_length _ _, h10 _ (by omega), by omega⟩⟩
end Go.Proofs.Ytdnbpapolckklaa.Pure
