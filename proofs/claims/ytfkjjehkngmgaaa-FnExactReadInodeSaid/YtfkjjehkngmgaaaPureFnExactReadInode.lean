/- FnExactReadInode: for every text the program's ReadInode answers what the reference's does, in new memory; no condition. -/
import Derived.Test.YtfkjjehkngmgaaaPFnExactReadInodex4
import Derived.Test.YtfkjjehkngmgaaaAid
namespace Go.Proofs.Ytfkjjehkngmgaaa.Pure
open Go.RowKit Go.Proofs.Ytfkjjehkngmgaaa.PFnExactReadInode Go.Proofs.YtfkjjehkngmgaaaW.PrintWords Go.Proofs.YtfkjjehkngmgaaaW.PrintLast Go.Proofs.YtfkjjehkngmgaaaW.PrintMore Go.Proofs.Ytfkjjehkngmgaaa.Aid
set_option linter.unusedVariables false
set_option linter.unusedSimpArgs false

theorem in_eq (a b c : Int) : spec_l01In.f a b c = some (decide (b ≤ a ∧ a ≤ c)) := by
  unfold spec_l01In.f
  by_cases h : a ≥ b
  · rw [if_pos h]
    simp [show b ≤ a from h]
  · rw [if_neg h]
    simp [show ¬ b ≤ a from h]

theorem within_eq (a b c : Int) : impl_within.f a b c = some (decide (b ≤ a ∧ a ≤ c)) := by
  unfold impl_within.f
  by_cases h : a ≥ b
  · rw [if_pos h]
    simp [show b ≤ a from h]
  · rw [if_neg h]
    simp [show ¬ b ≤ a from h]

/-- A right inode. -/
def IOk (k l : Int) (p : List Int) : Prop := 0 ≤ k ∧ k ≤ 2 ∧ 0 ≤ l ∧ l ≤ 200 ∧ p.length = 2 ∧ (∀ x ∈ p, 0 ≤ x ∧ x ≤ 16 ∧ (k = 0 → x = 0)) ∧ (k = 0 → l = 0)
instance (k l : Int) (p : List Int) : Decidable (IOk k l p) := by unfold IOk; infer_instance
theorem two_of {p : List Int} (h : p.length = 2) : ∃ a b, p = [a, b] := by
  match p, h with
  | [a, b], _ => exact ⟨a, b, rfl⟩
theorem spec_inodeok_two (k l a b : Int) : Ev (fun n => spec_InodeOk.l0 n 0 k l [a, b]) (decide ((0 ≤ a ∧ a ≤ 16 ∧ (k = 0 → a = 0)) ∧ (0 ≤ b ∧ b ≤ 16 ∧ (k = 0 → b = 0)) ∧ (k = 0 → l = 0))) := by
  refine Ev.at_ 4 (fun n hn => ?_)
  obtain ⟨n, rfl⟩ : ∃ m, n = m + 4 := ⟨n - 4, by omega⟩
  have r0 : rd [a, b] 0 = a := rfl
  have r1 : rd [a, b] 1 = b := rfl
  have w0 : wrap64 (0 + 1) = 1 := by decide +kernel
  have w1 : wrap64 (1 + 1) = 2 := by decide +kernel
  simp only [spec_InodeOk.l0, in_eq, Option.bind_some, r0, w0, r1, w1, decide_eq_true_eq]
  by_cases k0 : k = 0
  · subst k0
    by_cases h1 : 0 ≤ a ∧ a ≤ 16
    · by_cases h2 : a = 0
      · by_cases h3 : 0 ≤ b ∧ b ≤ 16
        · by_cases h4 : b = 0
          · by_cases h5 : l = 0
            · simp [h2, h4, h5]
            · simp [h2, h4, h5]
          · simp [h2, h3, h4]
        · simp [h2, h3]
          try omega
      · simp [h1, h2]
    · simp [h1]
      try omega
  · by_cases h1 : 0 ≤ a ∧ a ≤ 16
    · by_cases h3 : 0 ≤ b ∧ b ≤ 16
      · simp [k0, h1, h3]
      · simp [k0, h1, h3]
        try omega
    · simp [k0, h1]
      try omega
theorem spec_inodeok (k l : Int) (p : List Int) : Ev (fun n => spec_InodeOk.f n k l p) (decide (IOk k l p)) := by
  have no : ∀ {x0 x1 : Int} {x2 : List Int}, ¬ IOk k l p → Ev (fun n => spec_InodeOk.j0 n true x0 x1 x2) (decide (IOk k l p)) := fun h => Ev.last (fun n => by simp only [spec_InodeOk.j0]; rw [decide_eq_false h]; rfl)
  unfold spec_InodeOk.f
  simp only [in_eq, Option.bind_some, decide_eq_true_eq]
  by_cases h1 : 0 ≤ k ∧ k ≤ 2
  · by_cases h2 : 0 ≤ l ∧ l ≤ 200
    · simp only [if_pos h1, if_pos h2]
      by_cases h3 : p.length = 2
      · obtain ⟨a, b, rfl⟩ := two_of h3
        refine Ev.step (f := fun n => spec_InodeOk.l0 n 0 k l [a, b]) (fun n => by simp only [spec_InodeOk.j0]; rfl) ?_
        have e : decide (IOk k l [a, b]) = decide ((0 ≤ a ∧ a ≤ 16 ∧ (k = 0 → a = 0)) ∧ (0 ≤ b ∧ b ≤ 16 ∧ (k = 0 → b = 0)) ∧ (k = 0 → l = 0)) := by
          rw [decide_eq_decide]
          unfold IOk
          simp [h1, h2, and_assoc]
        rw [e]
        exact spec_inodeok_two k l a b
      · have hb : ((p.length : Int) != 2) = true := by rw [bne_iff_ne]; omega
        rw [hb]
        exact no (fun h => h3 h.2.2.2.2.1)
    · simp only [if_pos h1, if_neg h2]
      exact no (fun h => h2 ⟨h.2.2.1, h.2.2.2.1⟩)
  · simp only [if_neg h1]
    exact no (fun h => h1 ⟨h.1, h.2.1⟩)
theorem impl_inodeok_loop (k l : Int) (p : List Int) (hp : p.length ≤ 1048576) (d : Nat) : ∀ (i : Int), 0 ≤ i → i ≤ p.length → (p.length : Int) - i = d → (∀ j : Nat, (j : Int) < i → 0 ≤ p.getD j 0 ∧ p.getD j 0 ≤ 16 ∧ (k = 0 → p.getD j 0 = 0)) → Ev (fun n => impl_InodeOk.l0 n p (p.length : Int) i k l p) (decide (IOk k l p)) := by
  induction d with
  | zero =>
    intro i h0 h1 hd hall
    have hall' : ∀ x ∈ p, 0 ≤ x ∧ x ≤ 16 ∧ (k = 0 → x = 0) := fun x hx => by
      obtain ⟨j, hj, e⟩ := List.mem_iff_getElem.1 hx
      have := hall j (by omega)
      rw [List.getD_eq_getElem?_getD, List.getElem?_eq_getElem hj] at this
      rw [← e]
      exact this
    refine Ev.last (fun n => ?_)
    simp only [impl_InodeOk.l0, within_eq, Option.bind_some, decide_eq_true_eq]
    rw [if_neg (by omega)]
    have hlen : ((p.length : Int) = 2) ↔ p.length = 2 := by omega
    by_cases a1 : 0 ≤ k ∧ k ≤ 2
    · by_cases a2 : 0 ≤ l ∧ l ≤ 200
      · by_cases a3 : p.length = 2
        · rw [if_pos a1, if_pos a2, if_pos (hlen.2 a3)]
          by_cases k0 : k = 0
          · rw [if_pos k0]
            by_cases l0 : l = 0
            · rw [decide_eq_true (show IOk k l p from ⟨a1.1, a1.2, a2.1, a2.2, a3, hall', fun _ => l0⟩), l0]
              rfl
            · rw [decide_eq_false (fun h : IOk k l p => l0 (h.2.2.2.2.2.2 k0)), beq_eq_false_iff_ne.2 l0]
          · rw [if_neg k0, decide_eq_true (show IOk k l p from ⟨a1.1, a1.2, a2.1, a2.2, a3, hall', fun h => absurd h k0⟩)]
        · rw [if_pos a1, if_pos a2, if_neg (fun h => a3 (hlen.1 h)), decide_eq_false (fun h : IOk k l p => a3 h.2.2.2.2.1)]
      · rw [if_pos a1, if_neg a2, decide_eq_false (fun h : IOk k l p => a2 ⟨h.2.2.1, h.2.2.2.1⟩)]
    · rw [if_neg a1, decide_eq_false (fun h : IOk k l p => a1 ⟨h.1, h.2.1⟩)]
  | succ d ih =>
    intro i h0 h1 hd hall
    have hw : wrap64 (i + 1) = i + 1 := w64 (by omega) (by omega)
    have e : rd p i = p.getD i.toNat 0 := rfl
    have hmem := getD_mem (xs := p) (i := i.toNat) 0 (by omega)
    by_cases hin : 0 ≤ p.getD i.toNat 0 ∧ p.getD i.toNat 0 ≤ 16 ∧ (k = 0 → p.getD i.toNat 0 = 0)
    · refine Ev.step (fun n => ?_) (ih (i + 1) (by omega) (by omega) (by omega) (fun j hj => by
        by_cases ej : j = i.toNat
        · rw [ej]; exact hin
        · exact hall j (by omega)))
      simp only [impl_InodeOk.l0, within_eq, Option.bind_some, decide_eq_true_eq, e]
      rw [if_pos (by omega), if_pos h0, if_pos (by omega), if_pos ⟨hin.1, hin.2.1⟩, hw]
      by_cases z : p.getD i.toNat 0 = 0
      · rw [if_pos z]
      · rw [if_neg z, if_neg (fun k0 => z (hin.2.2 k0))]
    · refine Ev.last (fun n => ?_)
      rw [decide_eq_false (fun h : IOk k l p => hin (h.2.2.2.2.2.1 _ hmem))]
      simp only [impl_InodeOk.l0, within_eq, Option.bind_some, decide_eq_true_eq, e]
      rw [if_pos (by omega), if_pos h0, if_pos (by omega)]
      by_cases hr : 0 ≤ p.getD i.toNat 0 ∧ p.getD i.toNat 0 ≤ 16
      · have hk : k = 0 := Decidable.byContradiction fun hk => hin ⟨hr.1, hr.2, fun h => absurd h hk⟩
        have hz : ¬ p.getD i.toNat 0 = 0 := fun hz => hin ⟨hr.1, hr.2, fun _ => hz⟩
        rw [if_pos hr, if_neg hz, if_pos hk]
      · rw [if_neg hr]
theorem impl_inodeok (k l : Int) (p : List Int) (hp : p.length ≤ 1048576) : Ev (fun n => impl_InodeOk.f n k l p) (decide (IOk k l p)) :=
  impl_inodeok_loop k l p hp p.length 0 (by omega) (by omega) (by omega) (fun j hj => by omega)

/-- What both ReadInodes answer. -/
def RI (s : ByteArray) : Int × Int × List Int × Bool := if s.size = 4 ∧ IOk (bt s 0) (bt s 1) [bt s 2, bt s 3] then (bt s 0, bt s 1, [bt s 2, bt s 3], true) else (0, 0, [], false)
theorem wbt (s : ByteArray) (i : Int) : wrap64 (bt s i) = bt s i := by
  have := bt_range s i
  exact w64 (by omega) (by omega)
theorem spec_readinode (s : ByteArray) : Ev (fun k => spec_ReadInode.f k s) (RI s) := by
  unfold spec_ReadInode.f RI
  by_cases h : s.size = 4
  · have hs : (s.size : Int) = 4 := by omega
    simp only [wbt]
    refine Ev.congr (f := fun k => (spec_InodeOk.f k (bt s 0) (bt s 1) [bt s 2, bt s 3]).bind fun t => if t = true then some (bt s 0, bt s 1, [bt s 2, bt s 3], true) else some (0, 0, ([] : List Int), false)) (fun k => ?_) ?_
    · rw [if_pos hs, if_pos (by omega), if_pos (by omega), if_pos (by omega), if_pos (by omega)]
      rfl
    · refine Ev.bind (spec_inodeok _ _ _) (Ev.now' fun _ => ?_)
      by_cases ho : IOk (bt s 0) (bt s 1) [bt s 2, bt s 3]
      · simp [h, ho]
      · simp [h, ho]
  · exact Ev.now' fun k => by rw [if_neg (by omega), if_neg (fun z => h z.1)]
theorem impl_readinode (s : ByteArray) : Ev (fun k => impl_ReadInode.f k s) (RI s) := by
  unfold impl_ReadInode.f RI
  by_cases h : s.size = 4
  · have hs : (s.size : Int) = 4 := by omega
    simp only [wbt]
    have w0 : wrap64 (0 + 1) = 1 := by decide +kernel
    have w1 : wrap64 (1 + 1) = 2 := by decide +kernel
    have v0 : wrap64 (2 + 0) = 2 := by decide +kernel
    have v1 : wrap64 (2 + 1) = 3 := by decide +kernel
    refine Ev.congr (f := fun k => impl_ReadInode.l0 k s 0 (bt s 0) (bt s 1) []) (fun k => by rw [if_pos hs, if_pos (by omega), if_pos (by omega)]) ?_
    refine Ev.step (f := fun k => impl_ReadInode.l0 k s 1 (bt s 0) (bt s 1) [bt s 2]) (fun k => by
      simp only [impl_ReadInode.l0, v0, w0, wbt]
      rw [if_pos (by omega), if_pos (by omega), if_pos (by omega), if_pos (by simp)]
      rfl) ?_
    refine Ev.step (f := fun k => impl_ReadInode.l0 k s 2 (bt s 0) (bt s 1) [bt s 2, bt s 3]) (fun k => by
      simp only [impl_ReadInode.l0, v1, w1, wbt]
      rw [if_pos (by omega), if_pos (by omega), if_pos (by omega), if_pos (by simp)]
      rfl) ?_
    refine Ev.step (f := fun k => (impl_InodeOk.f k (bt s 0) (bt s 1) [bt s 2, bt s 3]).bind fun t => if t = true then some (bt s 0, bt s 1, [bt s 2, bt s 3], true) else some (0, 0, ([] : List Int), false)) (fun k => by
      simp only [impl_ReadInode.l0]
      rw [if_neg (by omega)]) ?_
    refine Ev.bind (impl_inodeok _ _ _ (by simp)) (Ev.now' fun _ => ?_)
    by_cases ho : IOk (bt s 0) (bt s 1) [bt s 2, bt s 3]
    · simp [h, ho]
    · simp [h, ho]
  · exact Ev.now' fun k => by rw [if_neg (by omega), if_neg (fun z => h z.1)]
theorem ri_len (s : ByteArray) : (RI s).2.2.1.length ≤ 1048576 := by
  unfold RI
  split <;> simp

theorem laws_eqIntS_loop (l : List (Int)) (hl : l.length ≤ 1048576) (d : Nat) : ∀ (i : Int), 0 ≤ i → i ≤ l.length → (l.length : Int) - i = d → Ev (fun k => laws_eqIntS.l0 k l l i) true := by
  induction d with
  | zero =>
    intro i h0 h1 hd
    exact Ev.last (fun k => by simp only [laws_eqIntS.l0]; rw [if_neg (by omega)])
  | succ d ih =>
    intro i h0 h1 hd
    have hw : wrap64 (i + 1) = i + 1 := w64 (by omega) (by omega)
    refine Ev.step (fun k => ?_) (ih (i + 1) (by omega) (by omega) (by omega))
    simp only [laws_eqIntS.l0]
    rw [if_pos (by omega), if_pos h0, if_pos (by omega), hw]
    simp
theorem laws_eqIntS_refl (l : List (Int)) (hl : l.length ≤ 1048576) : Ev (fun k => laws_eqIntS.f k l l) true := by
  refine Ev.congr (fun k => ?_) (laws_eqIntS_loop l hl l.length 0 (by omega) (by omega) (by omega))
  unfold laws_eqIntS.f
  rw [if_pos rfl]

theorem eqInode_ev (a b : Int) (l : List Int) (hl : l.length ≤ 1048576) : Ev (fun k => laws_eqInode.f k a b l a b l) true := by
  unfold laws_eqInode.f
  simp only [if_true]
  exact Ev.bind (laws_eqIntS_refl l hl) (Ev.now _)

def laws_markIntS_marks (m : Int) (n : Nat) : List (Int) := (List.range n).map fun j : Nat => (fun x1 : Int => x1) (m + (j : Int))
theorem laws_markIntS_marks_length (m : Int) (n : Nat) : (laws_markIntS_marks m n).length = n := by simp [laws_markIntS_marks]
theorem laws_markIntS_marks_at (m : Int) (n i : Nat) (h : i < n) (d : Int) : (laws_markIntS_marks m n).getD i d = (fun x1 : Int => x1) (m + i) := by
  unfold laws_markIntS_marks
  rw [List.getD_eq_getElem?_getD, List.getElem?_map, List.getElem?_range h]
  rfl
theorem laws_markIntS_loop (m : Int) (n : Nat) (hn : n ≤ 1048576) (m0 : 0 ≤ m) (m1 : m ≤ 1000000000) (d : Nat) : ∀ (x : List (Int)) (i : Nat), x.length = n → i ≤ n → n - i = d → x.take i = (laws_markIntS_marks m n).take i → Ev (fun k => laws_markIntS.l0 k x (m + i) (i : Int)) (m + n, laws_markIntS_marks m n) := by
  induction d with
  | zero =>
    intro x i hx hi hd ht
    obtain rfl : i = n := by omega
    have e : x = laws_markIntS_marks m i := take_all (by rw [hx, laws_markIntS_marks_length]) (by rw [laws_markIntS_marks_length]; exact ht)
    subst e
    exact Ev.last (fun k => by simp only [laws_markIntS.l0]; rw [if_neg (by omega)])
  | succ d ih =>
    intro x i hx hi hd ht
    have hs := set_take (laws_markIntS_marks m n) x 0 i (by rw [laws_markIntS_marks_length]; omega) (by rw [hx, laws_markIntS_marks_length]) ht
    rw [laws_markIntS_marks_at m n i (by omega)] at hs
    refine Ev.step (fun k => ?_) (ih (x.set i ((fun x1 : Int => x1) (m + i))) (i + 1) (by rw [List.length_set]; exact hx) (by omega) (by omega) hs)
    simp only [laws_markIntS.l0]
    rw [if_pos (by omega), if_pos (by omega), w64 (x := m + i + 1) (by omega) (by omega), w64 (x := (i : Int) + 1) (by omega) (by omega), Int.toNat_natCast, show m + (i : Int) + 1 = m + ((i + 1 : Nat) : Int) by omega, show (i : Int) + 1 = ((i + 1 : Nat) : Int) by omega]
theorem laws_markIntS_ev (l : List (Int)) (m : Int) (hn : l.length ≤ 1048576) (m0 : 0 ≤ m) (m1 : m ≤ 1000000000) : Ev (fun k => laws_markIntS.f k l m) (m + l.length, laws_markIntS_marks m l.length) := by
  have h := laws_markIntS_loop m l.length hn m0 m1 l.length l 0 rfl (by omega) (by omega) (by simp)
  refine Ev.congr (fun k => ?_) h
  unfold laws_markIntS.f
  simp
theorem laws_heldIntS_loop (m : Int) (n : Nat) (hn : n ≤ 1048576) (m0 : 0 ≤ m) (m1 : m ≤ 1000000000) (d : Nat) : ∀ (i : Nat), i ≤ n → n - i = d → Ev (fun k => laws_heldIntS.l0 k (laws_markIntS_marks m n) (m + i) (i : Int)) (m + n) := by
  induction d with
  | zero =>
    intro i hi hd
    obtain rfl : i = n := by omega
    exact Ev.last (fun k => by simp only [laws_heldIntS.l0, laws_markIntS_marks_length]; rw [if_neg (by omega)])
  | succ d ih =>
    intro i hi hd
    refine Ev.step (fun k => ?_) (ih (i + 1) (by omega) (by omega))
    have e : rd (laws_markIntS_marks m n) (i : Int) = (fun x1 : Int => x1) (m + i) := laws_markIntS_marks_at m n i (by omega) _
    simp only [laws_heldIntS.l0, laws_markIntS_marks_length, e]
    rw [if_pos (by omega), if_pos (by omega), w64 (x := m + i + 1) (by omega) (by omega), w64 (x := (i : Int) + 1) (by omega) (by omega), show m + (i : Int) + 1 = m + ((i + 1 : Nat) : Int) by omega, show (i : Int) + 1 = ((i + 1 : Nat) : Int) by omega]
    simp
theorem laws_heldIntS_ev (m : Int) (n : Nat) (hn : n ≤ 1048576) (m0 : 0 ≤ m) (m1 : m ≤ 1000000000) : Ev (fun k => laws_heldIntS.f k (laws_markIntS_marks m n) m) (m + n) := by
  have h := laws_heldIntS_loop m n hn m0 m1 n 0 (by omega) (by omega)
  refine Ev.congr (fun k => ?_) h
  unfold laws_heldIntS.f
  simp

theorem markInode_ev (a b : Int) (l : List Int) (hn : l.length ≤ 1048576) : Ev (fun k => laws_markInode.f k a b l 1) (1 + l.length, laws_markIntS_marks 1 l.length) := by
  unfold laws_markInode.f
  exact Ev.bind (laws_markIntS_ev l 1 hn (by omega) (by omega)) (Ev.now _)
theorem heldInode_ev (a b : Int) (n : Nat) (hn : n ≤ 1048576) : Ev (fun k => laws_heldInode.f k a b (laws_markIntS_marks 1 n) 1) (1 + n) := by
  unfold laws_heldInode.f
  exact Ev.bind (laws_heldIntS_ev 1 n hn (by omega) (by omega)) (Ev.now' fun _ => by rw [if_neg (by omega)])

theorem FnExactReadInode : laws_FnExactReadInode.Pure := by
  intro s hs
  unfold laws_FnExactReadInode.f
  by_cases h : (s.size : Int) > 1048576
  · exact ⟨0, by rw [if_pos h]⟩
  · simp only [if_neg h]
    have hl := ri_len s
    have e1 := spec_readinode s
    have e2 := impl_readinode s
    generalize RI s = r at hl e1 e2
    obtain ⟨x, y, p, ok⟩ := r
    simp only at hl
    refine Ev.rounds (Ev.bind e1 (Ev.bind e2 (Ev.bind (eqInode_ev x y p hl) ?_)))
    simp only [if_true, bne_self_eq_false]
    refine Ev.step (f := fun k => (laws_markInode.f k x y p 1).bind fun b => (laws_heldInode.f k x y b.2 1).bind fun t => if t < 0 then some false else if t = b.1 then (impl_ReadInode.f k s).bind fun c => (laws_eqInode.f k c.1 c.2.1 c.2.2.1 x y p).bind fun t => if t = true then laws_FnExactReadInode.j1 k b.1 (c.2.2.2 != ok) x y b.2 else laws_FnExactReadInode.j1 k b.1 true x y b.2 else some false) (fun k => by simp only [laws_FnExactReadInode.j0]; rfl) ?_
    refine Ev.bind (markInode_ev x y p hl) (Ev.bind (heldInode_ev x y p.length hl) ?_)
    simp only [if_neg (show ¬ (1 + (p.length : Int)) < 0 by omega), if_true]
    refine Ev.bind e2 (Ev.bind (eqInode_ev x y p hl) ?_)
    simp only [if_true, bne_self_eq_false]
    refine Ev.step (f := fun k => (laws_heldInode.f k x y (laws_markIntS_marks 1 p.length) 1).bind fun t => if t < 0 then some false else if t = 1 + (p.length : Int) then some true else some false) (fun k => by simp only [laws_FnExactReadInode.j1]; rfl) ?_
    refine Ev.bind (heldInode_ev x y p.length hl) (Ev.now' fun _ => ?_)
    rw [if_neg (by omega), if_pos rfl]
end Go.Proofs.Ytfkjjehkngmgaaa.Pure
