/- FnExactInodeText: for every Inode the program's InodeText answers what the reference's does, and leaves its argument as it was; no condition. -/
import Derived.Test.YtfkjjehkngmgaaaPFnExactInodeTextx3
import Derived.Test.YtfkjjehkngmgaaaAid
namespace Go.Proofs.Ytfkjjehkngmgaaa.Pure
open Go.RowKit Go.Proofs.Ytfkjjehkngmgaaa.PFnExactInodeText Go.Proofs.YtfkjjehkngmgaaaW.PrintWords Go.Proofs.YtfkjjehkngmgaaaW.PrintLast Go.Proofs.YtfkjjehkngmgaaaW.PrintMore Go.Proofs.Ytfkjjehkngmgaaa.Aid
set_option linter.unusedVariables false
set_option linter.unusedSimpArgs false

theorem laws_szIntS_eq (l : List (Int)) (a : Int) (hl : l.length ≤ 140737488355328) (h0 : 0 ≤ a) (h1 : a ≤ 1048576) : laws_szIntS.f l a = some (if a - l.length < 0 then -1 else a - l.length) := by
  unfold laws_szIntS.f
  rw [w64 (by omega) (by omega)]
  split <;> rfl

theorem szInode_eq (x y : Int) (l : List Int) (a : Int) (hl : l.length ≤ 140737488355328) (h0 : 0 ≤ a) (h1 : a ≤ 1048576) : laws_szInode.f x y l a = some (if a - l.length < 0 then -1 else a - l.length) := by
  unfold laws_szInode.f
  rw [laws_szIntS_eq l a hl h0 h1]
  simp only [Option.bind_some]
  by_cases h : a - (l.length : Int) < 0
  · simp [h]
  · simp [h]

theorem laws_toIntS_loop (l : List (Int)) (hl : l.length ≤ 1048576) (d : Nat) : ∀ (y : List (Int)) (i : Int), 0 ≤ i → i ≤ l.length → (l.length : Int) - i = d → y.length = l.length → y.take i.toNat = l.take i.toNat → Ev (fun k => laws_toIntS.l0 k l y i) l := by
  induction d with
  | zero =>
    intro y i h0 h1 hd hy ht
    have e : y = l := take_all hy (by rw [show l.length = i.toNat by omega]; exact ht)
    subst e
    exact Ev.last (fun k => by simp only [laws_toIntS.l0]; rw [if_neg (by omega)])
  | succ d ih =>
    intro y i h0 h1 hd hy ht
    have hw : wrap64 (i + 1) = i + 1 := w64 (by omega) (by omega)
    have hs := set_take l y 0 i.toNat (by omega) hy ht
    refine Ev.step (fun k => ?_) (ih (y.set i.toNat (l.getD i.toNat 0)) (i + 1) (by omega) (by omega) (by omega) (by rw [List.length_set]; exact hy) (by rw [toNat_succ h0]; exact hs))
    simp only [laws_toIntS.l0]
    rw [if_pos (by omega), if_pos h0, if_pos (by omega), hw]
    rfl
theorem laws_toIntS_ev (l : List (Int)) (hl : l.length ≤ 1048576) : Ev (fun k => laws_toIntS.f k l) l := by
  have h := laws_toIntS_loop l hl l.length (List.replicate l.length 0) 0 (by omega) (by omega) (by omega) (by simp) (by simp)
  refine Ev.congr (fun k => ?_) h
  unfold laws_toIntS.f
  rw [if_pos (by omega), if_pos (by omega)]
  rfl

theorem toInode_ev (a b : Int) (l : List Int) (hl : l.length ≤ 1048576) : Ev (fun k => laws_toInode.f k a b l) (a, b, l) := by
  unfold laws_toInode.f
  exact Ev.bind (laws_toIntS_ev l hl) (Ev.now _)

theorem laws_eqIntS_loop (l : List (Int)) (hl : l.length ≤ 1048576) (d : Nat) : ∀ (i : Int), 0 ≤ i → i ≤ l.length → (l.length : Int) - i = d → Ev (fun k => laws_eqIntS.l0 k l l i) true := by
  induction d with
  | zero =>
    intro i h0 h1 hd
    exact Ev.last (fun k => by simp only [laws_eqIntS.l0]; rw [if_neg (by omega)])
  | succ d ih =>
    intro i h0 h1 hd
    have hw : wrap64 (i + 1) = i + 1 := w64 (by omega) (by omega)
    refine Ev.step (fun k => ?_) (ih (i + 1) (by omega) (by omega) (by omega))
    simp only [laws_eqIntS.l0]
    rw [if_pos (by omega), if_pos h0, if_pos (by omega), hw]
    simp
theorem laws_eqIntS_refl (l : List (Int)) (hl : l.length ≤ 1048576) : Ev (fun k => laws_eqIntS.f k l l) true := by
  refine Ev.congr (fun k => ?_) (laws_eqIntS_loop l hl l.length 0 (by omega) (by omega) (by omega))
  unfold laws_eqIntS.f
  rw [if_pos rfl]

theorem eqInode_ev (a b : Int) (l : List Int) (hl : l.length ≤ 1048576) : Ev (fun k => laws_eqInode.f k a b l a b l) true := by
  unfold laws_eqInode.f
  simp only [if_true]
  exact Ev.bind (laws_eqIntS_refl l hl) (Ev.now _)


theorem in_eq (a b c : Int) : spec_l01In.f a b c = some (decide (b ≤ a ∧ a ≤ c)) := by
  unfold spec_l01In.f
  by_cases h : a ≥ b
  · rw [if_pos h]
    simp [show b ≤ a from h]
  · rw [if_neg h]
    simp [show ¬ b ≤ a from h]

theorem within_eq (a b c : Int) : impl_within.f a b c = some (decide (b ≤ a ∧ a ≤ c)) := by
  unfold impl_within.f
  by_cases h : a ≥ b
  · rw [if_pos h]
    simp [show b ≤ a from h]
  · rw [if_neg h]
    simp [show ¬ b ≤ a from h]

/-- A right inode. -/
def IOk (k l : Int) (p : List Int) : Prop := 0 ≤ k ∧ k ≤ 2 ∧ 0 ≤ l ∧ l ≤ 200 ∧ p.length = 2 ∧ (∀ x ∈ p, 0 ≤ x ∧ x ≤ 16 ∧ (k = 0 → x = 0)) ∧ (k = 0 → l = 0)
instance (k l : Int) (p : List Int) : Decidable (IOk k l p) := by unfold IOk; infer_instance
theorem two_of {p : List Int} (h : p.length = 2) : ∃ a b, p = [a, b] := by
  match p, h with
  | [a, b], _ => exact ⟨a, b, rfl⟩
theorem spec_inodeok_two (k l a b : Int) : Ev (fun n => spec_InodeOk.l0 n 0 k l [a, b]) (decide ((0 ≤ a ∧ a ≤ 16 ∧ (k = 0 → a = 0)) ∧ (0 ≤ b ∧ b ≤ 16 ∧ (k = 0 → b = 0)) ∧ (k = 0 → l = 0))) := by
  refine Ev.at_ 4 (fun n hn => ?_)
  obtain ⟨n, rfl⟩ : ∃ m, n = m + 4 := ⟨n - 4, by omega⟩
  have r0 : rd [a, b] 0 = a := rfl
  have r1 : rd [a, b] 1 = b := rfl
  have w0 : wrap64 (0 + 1) = 1 := by decide +kernel
  have w1 : wrap64 (1 + 1) = 2 := by decide +kernel
  simp only [spec_InodeOk.l0, in_eq, Option.bind_some, r0, w0, r1, w1, decide_eq_true_eq]
  by_cases k0 : k = 0
  · subst k0
    by_cases h1 : 0 ≤ a ∧ a ≤ 16
    · by_cases h2 : a = 0
      · by_cases h3 : 0 ≤ b ∧ b ≤ 16
        · by_cases h4 : b = 0
          · by_cases h5 : l = 0
            · simp [h2, h4, h5]
            · simp [h2, h4, h5]
          · simp [h2, h3, h4]
        · simp [h2, h3]
          try omega
      · simp [h1, h2]
    · simp [h1]
      try omega
  · by_cases h1 : 0 ≤ a ∧ a ≤ 16
    · by_cases h3 : 0 ≤ b ∧ b ≤ 16
      · simp [k0, h1, h3]
      · simp [k0, h1, h3]
        try omega
    · simp [k0, h1]
      try omega
theorem spec_inodeok (k l : Int) (p : List Int) : Ev (fun n => spec_InodeOk.f n k l p) (decide (IOk k l p)) := by
  have no : ∀ {x0 x1 : Int} {x2 : List Int}, ¬ IOk k l p → Ev (fun n => spec_InodeOk.j0 n true x0 x1 x2) (decide (IOk k l p)) := fun h => Ev.last (fun n => by simp only [spec_InodeOk.j0]; rw [decide_eq_false h]; rfl)
  unfold spec_InodeOk.f
  simp only [in_eq, Option.bind_some, decide_eq_true_eq]
  by_cases h1 : 0 ≤ k ∧ k ≤ 2
  · by_cases h2 : 0 ≤ l ∧ l ≤ 200
    · simp only [if_pos h1, if_pos h2]
      by_cases h3 : p.length = 2
      · obtain ⟨a, b, rfl⟩ := two_of h3
        refine Ev.step (f := fun n => spec_InodeOk.l0 n 0 k l [a, b]) (fun n => by simp only [spec_InodeOk.j0]; rfl) ?_
        have e : decide (IOk k l [a, b]) = decide ((0 ≤ a ∧ a ≤ 16 ∧ (k = 0 → a = 0)) ∧ (0 ≤ b ∧ b ≤ 16 ∧ (k = 0 → b = 0)) ∧ (k = 0 → l = 0)) := by
          rw [decide_eq_decide]
          unfold IOk
          simp [h1, h2, and_assoc]
        rw [e]
        exact spec_inodeok_two k l a b
      · have hb : ((p.length : Int) != 2) = true := by rw [bne_iff_ne]; omega
        rw [hb]
        exact no (fun h => h3 h.2.2.2.2.1)
    · simp only [if_pos h1, if_neg h2]
      exact no (fun h => h2 ⟨h.2.2.1, h.2.2.2.1⟩)
  · simp only [if_neg h1]
    exact no (fun h => h1 ⟨h.1, h.2.1⟩)
theorem impl_inodeok_loop (k l : Int) (p : List Int) (hp : p.length ≤ 1048576) (d : Nat) : ∀ (i : Int), 0 ≤ i → i ≤ p.length → (p.length : Int) - i = d → (∀ j : Nat, (j : Int) < i → 0 ≤ p.getD j 0 ∧ p.getD j 0 ≤ 16 ∧ (k = 0 → p.getD j 0 = 0)) → Ev (fun n => impl_InodeOk.l0 n p (p.length : Int) i k l p) (decide (IOk k l p)) := by
  induction d with
  | zero =>
    intro i h0 h1 hd hall
    have hall' : ∀ x ∈ p, 0 ≤ x ∧ x ≤ 16 ∧ (k = 0 → x = 0) := fun x hx => by
      obtain ⟨j, hj, e⟩ := List.mem_iff_getElem.1 hx
      have := hall j (by omega)
      rw [List.getD_eq_getElem?_getD, List.getElem?_eq_getElem hj] at this
      rw [← e]
      exact this
    refine Ev.last (fun n => ?_)
    simp only [impl_InodeOk.l0, within_eq, Option.bind_some, decide_eq_true_eq]
    rw [if_neg (by omega)]
    have hlen : ((p.length : Int) = 2) ↔ p.length = 2 := by omega
    by_cases a1 : 0 ≤ k ∧ k ≤ 2
    · by_cases a2 : 0 ≤ l ∧ l ≤ 200
      · by_cases a3 : p.length = 2
        · rw [if_pos a1, if_pos a2, if_pos (hlen.2 a3)]
          by_cases k0 : k = 0
          · rw [if_pos k0]
            by_cases l0 : l = 0
            · rw [decide_eq_true (show IOk k l p from ⟨a1.1, a1.2, a2.1, a2.2, a3, hall', fun _ => l0⟩), l0]
              rfl
            · rw [decide_eq_false (fun h : IOk k l p => l0 (h.2.2.2.2.2.2 k0)), beq_eq_false_iff_ne.2 l0]
          · rw [if_neg k0, decide_eq_true (show IOk k l p from ⟨a1.1, a1.2, a2.1, a2.2, a3, hall', fun h => absurd h k0⟩)]
        · rw [if_pos a1, if_pos a2, if_neg (fun h => a3 (hlen.1 h)), decide_eq_false (fun h : IOk k l p => a3 h.2.2.2.2.1)]
      · rw [if_pos a1, if_neg a2, decide_eq_false (fun h : IOk k l p => a2 ⟨h.2.2.1, h.2.2.2.1⟩)]
    · rw [if_neg a1, decide_eq_false (fun h : IOk k l p => a1 ⟨h.1, h.2.1⟩)]
  | succ d ih =>
    intro i h0 h1 hd hall
    have hw : wrap64 (i + 1) = i + 1 := w64 (by omega) (by omega)
    have e : rd p i = p.getD i.toNat 0 := rfl
    have hmem := getD_mem (xs := p) (i := i.toNat) 0 (by omega)
    by_cases hin : 0 ≤ p.getD i.toNat 0 ∧ p.getD i.toNat 0 ≤ 16 ∧ (k = 0 → p.getD i.toNat 0 = 0)
    · refine Ev.step (fun n => ?_) (ih (i + 1) (by omega) (by omega) (by omega) (fun j hj => by
        by_cases ej : j = i.toNat
        · rw [ej]; exact hin
        · exact hall j (by omega)))
      simp only [impl_InodeOk.l0, within_eq, Option.bind_some, decide_eq_true_eq, e]
      rw [if_pos (by omega), if_pos h0, if_pos (by omega), if_pos ⟨hin.1, hin.2.1⟩, hw]
      by_cases z : p.getD i.toNat 0 = 0
      · rw [if_pos z]
      · rw [if_neg z, if_neg (fun k0 => z (hin.2.2 k0))]
    · refine Ev.last (fun n => ?_)
      rw [decide_eq_false (fun h : IOk k l p => hin (h.2.2.2.2.2.1 _ hmem))]
      simp only [impl_InodeOk.l0, within_eq, Option.bind_some, decide_eq_true_eq, e]
      rw [if_pos (by omega), if_pos h0, if_pos (by omega)]
      by_cases hr : 0 ≤ p.getD i.toNat 0 ∧ p.getD i.toNat 0 ≤ 16
      · have hk : k = 0 := Decidable.byContradiction fun hk => hin ⟨hr.1, hr.2, fun h => absurd h hk⟩
        have hz : ¬ p.getD i.toNat 0 = 0 := fun hz => hin ⟨hr.1, hr.2, fun _ => hz⟩
        rw [if_pos hr, if_neg hz, if_pos hk]
      · rw [if_neg hr]
theorem impl_inodeok (k l : Int) (p : List Int) (hp : p.length ≤ 1048576) : Ev (fun n => impl_InodeOk.f n k l p) (decide (IOk k l p)) :=
  impl_inodeok_loop k l p hp p.length 0 (by omega) (by omega) (by omega) (fun j hj => by omega)

theorem bytetexts_loop (p : List Int) (hp : p.length ≤ 1048576) (d : Nat) : ∀ (l : List Int) (i : Nat), i ≤ p.length → p.length - i = d → l = (p.take i).map (· % 256) → Ev (fun k => impl_byteTexts.l0 k l p (p.length : Int) (i : Int)) (strOfNums (p.map (· % 256))) := by
  induction d with
  | zero =>
    intro l i hi hd hl
    obtain rfl : i = p.length := by omega
    rw [List.take_length] at hl
    subst hl
    exact Ev.last (fun k => by simp only [impl_byteTexts.l0]; rw [if_neg (by omega)])
  | succ d ih =>
    intro l i hi hd hl
    have hlen : l.length = i := by rw [hl]; simp; omega
    refine Ev.step (fun k => ?_) (ih (l ++ [rd p (i : Int) % 256]) (i + 1) (by omega) (by omega) ?_)
    · simp only [impl_byteTexts.l0]
      rw [if_pos (by omega), if_pos (by omega), if_pos (by omega), if_pos (by omega), w64 (x := (i : Int) + 1) (by omega) (by omega)]
      rfl
    · have hr : rd p (i : Int) = p[i] := by
        unfold rd
        rw [Int.toNat_natCast, List.getD_eq_getElem?_getD, List.getElem?_eq_getElem (by omega)]
        rfl
      rw [List.take_succ_eq_append_getElem (by omega), List.map_append, ← hl, hr]
      rfl
theorem bytetexts_ev (p : List Int) (hp : p.length ≤ 1048576) : Ev (fun k => impl_byteTexts.f k p) (strOfNums (p.map (· % 256))) :=
  bytetexts_loop p hp p.length [] 0 (by omega) (by omega) (by simp)
theorem strOfNums_append (xs ys : List Int) : strOfNums xs ++ strOfNums ys = strOfNums (xs ++ ys) := by
  apply toList_inj
  rw [Go.Lib.toList_data, Go.Lib.toList_data, ByteArray.data_append, Array.toList_append, strOfNums_data, strOfNums_data, strOfNums_data, List.map_append]

/-- What both InodeTexts answer. -/
def IT (x y : Int) (p : List Int) : ByteArray × Bool := if IOk x y p then (strOfNums ((x % 256) :: (y % 256) :: p.map (· % 256)), true) else (⟨#[]⟩, false)
theorem impl_inodetext (x y : Int) (p : List Int) (hp : p.length ≤ 1048576) : Ev (fun k => impl_InodeText.f k x y p) (IT x y p) := by
  unfold impl_InodeText.f IT
  refine Ev.bind (impl_inodeok x y p hp) ?_
  by_cases h : IOk x y p
  · simp only [decide_eq_true h, if_true, if_pos h]
    refine Ev.bind (bytetexts_ev [x, y] (by simp)) (Ev.bind (bytetexts_ev p hp) (Ev.now' fun _ => ?_))
    rw [strOfNums_size, strOfNums_size, if_pos (by simp; omega), strOfNums_append]
    rfl
  · simp only [decide_eq_false h, if_neg h]
    exact Ev.now' fun _ => rfl

theorem spec_inodetext (x y : Int) (p : List Int) : Ev (fun k => spec_InodeText.f k x y p) (IT x y p) := by
  unfold spec_InodeText.f IT
  refine Ev.bind (spec_inodeok x y p) ?_
  by_cases h : IOk x y p
  · obtain ⟨a, b, rfl⟩ := two_of h.2.2.2.2.1
    simp only [decide_eq_true h, if_true, if_pos h]
    exact Ev.now' fun _ => rfl
  · simp only [decide_eq_false h, if_neg h]
    exact Ev.now' fun _ => rfl

theorem FnExactInodeText : laws_FnExactInodeText.Pure := by
  intro x y p hg
  obtain ⟨_, _, hl, _⟩ := hg
  simp only at hl
  unfold laws_FnExactInodeText.f
  rw [szInode_eq x y p 1048576 (by omega) (by omega) (by omega)]
  simp only [Option.bind_some]
  by_cases h : (1048576 : Int) - p.length < 0
  · exact ⟨0, by simp [h]⟩
  · simp only [if_neg h]
    have hp : p.length ≤ 1048576 := by omega
    refine Ev.rounds (Ev.bind (toInode_ev x y p hp) (Ev.bind (spec_inodetext x y p) (Ev.bind (toInode_ev x y p hp) (Ev.bind (impl_inodetext x y p hp) ?_))))
    simp only [if_true, bne_self_eq_false]
    refine Ev.step (f := fun k => (laws_toInode.f k x y p).bind fun b => (laws_eqInode.f k x y p b.1 b.2.1 b.2.2).bind fun t => if t = true then some true else some false) (fun k => by simp only [laws_FnExactInodeText.j0]; rfl) ?_
    exact Ev.bind (toInode_ev x y p hp) (Ev.bind (eqInode_ev x y p hp) (Ev.now _))
end Go.Proofs.Ytfkjjehkngmgaaa.Pure
