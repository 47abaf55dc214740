/- FnExactReadBits: for every text the program's ReadBits answers what the reference's does, in new memory; no condition. -/
import Derived.Test.YtfkjjehkngmgaaaPFnExactReadBitsx3
import Derived.Test.YtfkjjehkngmgaaaAid
namespace Go.Proofs.Ytfkjjehkngmgaaa.Pure
open Go.RowKit Go.Proofs.Ytfkjjehkngmgaaa.PFnExactReadBits Go.Proofs.YtfkjjehkngmgaaaW.PrintWords Go.Proofs.YtfkjjehkngmgaaaW.PrintLast Go.Proofs.YtfkjjehkngmgaaaW.PrintMore Go.Proofs.Ytfkjjehkngmgaaa.Aid
set_option linter.unusedVariables false
set_option linter.unusedSimpArgs false

/-- Bit i of a byte. -/
def bitOf (c : Int) (i : Nat) : Bool := (c.toNat / 2 ^ i) % 2 == 1
/-- The eight bits of a byte. -/
def ub (c : Int) : List Bool := [bitOf c 0, bitOf c 1, bitOf c 2, bitOf c 3, bitOf c 4, bitOf c 5, bitOf c 6, bitOf c 7]
/-- What both ReadBits answer. -/
def RB (s : ByteArray) : List Bool × List Bool × Bool := if s.size = 3 then (ub (bt s 0) ++ ub (bt s 1), ub (bt s 2), true) else ([], [], false)
theorem unpacked_all : ∀ n : Fin 256, impl_unpacked.f 10 ((n.val : Nat) : Int) = some (ub ((n.val : Nat) : Int)) := by decide +kernel
theorem unpacked_ev (c : Int) (h0 : 0 ≤ c) (h1 : c ≤ 255) : Ev (fun k => impl_unpacked.f k c) (ub c) := by
  have h := unpacked_all ⟨c.toNat, by omega⟩
  rw [Int.toNat_of_nonneg h0] at h
  exact Ev.of (fun k => impl_unpacked.mono _ k) h
theorem rb_len (s : ByteArray) : (RB s).1.length ≤ 1048576 ∧ (RB s).2.1.length ≤ 1048576 := by
  unfold RB
  split <;> simp [ub]
theorem impl_readbits (s : ByteArray) : Ev (fun k => impl_ReadBits.f k s) (RB s) := by
  unfold impl_ReadBits.f RB
  by_cases h : s.size = 3
  · have hs : (s.size : Int) = 3 := by omega
    simp only [if_pos h, if_pos hs]
    simp only [if_pos (show (0 : Int) < (s.size : Int) by omega), if_pos (show (1 : Int) < (s.size : Int) by omega), if_pos (show (2 : Int) < (s.size : Int) by omega)]
    have b0 := bt_range s 0
    have b1 := bt_range s 1
    have b2 := bt_range s 2
    refine Ev.bind (unpacked_ev _ b0.1 b0.2) (Ev.bind (unpacked_ev _ b1.1 b1.2) ?_)
    simp only [if_pos (show (ub (bt s 0)).length + (ub (bt s 1)).length < 140737488355328 by simp [ub])]
    exact Ev.bind (unpacked_ev _ b2.1 b2.2) (Ev.now _)
  · exact Ev.now' fun k => by rw [if_neg (by omega), if_neg h]

/-- Bit i of three bytes. -/
def bitAt (s : ByteArray) (i : Nat) : Bool := bitOf (bt s ((i / 8 : Nat) : Int)) (i % 8)
theorem l1_loop (s : ByteArray) (i : Nat) (hi : i < 24) (A B : List Bool) (hA : A.length ≤ 24) (hB : B.length ≤ 24) (r : List Bool × List Bool × Bool) (hn : if i < 16 then Ev (fun k => spec_ReadBits.l0 k s ((i + 1 : Nat) : Int) (A ++ [bitAt s i]) B) r else Ev (fun k => spec_ReadBits.l0 k s ((i + 1 : Nat) : Int) A (B ++ [bitAt s i])) r) (d : Nat) :
    ∀ j : Nat, j ≤ i % 8 → i % 8 - j = d → Ev (fun k => spec_ReadBits.l1 k s (i : Int) (((bt s ((i / 8 : Nat) : Int)).toNat / 2 ^ j : Nat) : Int) (j : Int) A B) r := by
  have hb := bt_range s ((i / 8 : Nat) : Int)
  have hm : Int.tmod (i : Int) 8 = ((i % 8 : Nat) : Int) := by rw [tmod_nn (by omega)]; omega
  induction d with
  | zero =>
    intro j hj hd
    obtain rfl : j = i % 8 := by omega
    have hbit : (Int.tmod (((bt s ((i / 8 : Nat) : Int)).toNat / 2 ^ (i % 8) : Nat) : Int) 2 == 1) = bitAt s i := by
      unfold bitAt bitOf
      generalize (bt s ((i / 8 : Nat) : Int)).toNat / 2 ^ (i % 8) = q
      rw [tmod_nn (by omega)]
      rw [Bool.eq_iff_iff, beq_iff_eq, beq_iff_eq]
      omega
    have hw : wrap64 ((i : Int) + 1) = ((i + 1 : Nat) : Int) := by rw [w64 (by omega) (by omega)]; omega
    by_cases h16 : i < 16
    · rw [if_pos h16] at hn
      refine Ev.step (fun k => ?_) hn
      simp only [spec_ReadBits.l1]
      rw [hm, if_neg (by omega), if_pos (by omega), if_pos (by omega), hbit, hw]
    · rw [if_neg h16] at hn
      refine Ev.step (fun k => ?_) hn
      simp only [spec_ReadBits.l1]
      rw [hm, if_neg (by omega), if_neg (by omega), if_pos (by omega), hbit, hw]
  | succ d ih =>
    intro j hj hd
    have hlt : (bt s ((i / 8 : Nat) : Int)).toNat / 2 ^ j ≤ 255 := Nat.le_trans (Nat.div_le_self _ _) (by omega)
    have hdiv : (bt s ((i / 8 : Nat) : Int)).toNat / 2 ^ j / 2 = (bt s ((i / 8 : Nat) : Int)).toNat / 2 ^ (j + 1) := by
      rw [Nat.div_div_eq_div_mul, Nat.pow_succ]
    refine Ev.step (fun k => ?_) (ih (j + 1) (by omega) (by omega))
    generalize (bt s ((i / 8 : Nat) : Int)).toNat / 2 ^ (j + 1) = q' at hdiv ⊢
    generalize (bt s ((i / 8 : Nat) : Int)).toNat / 2 ^ j = q at hlt hdiv ⊢
    simp only [spec_ReadBits.l1]
    rw [hm, if_pos (by omega), tdiv_nn (by omega), w64 (x := (q : Int) / 2) (by omega) (by omega), w64 (x := (j : Int) + 1) (by omega) (by omega)]
    rw [show (q : Int) / 2 = (q' : Int) by omega, show (j : Int) + 1 = ((j + 1 : Nat) : Int) by omega]
theorem l0_loop (s : ByteArray) (hs : s.size = 3) (d : Nat) : ∀ i : Nat, i ≤ 24 → 24 - i = d → Ev (fun k => spec_ReadBits.l0 k s (i : Int) ((List.range (min i 16)).map (bitAt s)) ((List.range (i - 16)).map fun t => bitAt s (16 + t))) ((List.range 16).map (bitAt s), (List.range 8).map fun t => bitAt s (16 + t), true) := by
  induction d with
  | zero =>
    intro i hi hd
    obtain rfl : i = 24 := by omega
    exact Ev.last (fun k => by simp only [spec_ReadBits.l0]; rw [if_neg (by omega)]; rfl)
  | succ d ih =>
    intro i hi hd
    have hb := bt_range s ((i / 8 : Nat) : Int)
    have hn := ih (i + 1) (by omega) (by omega)
    have h1 := l1_loop s i (by omega) ((List.range (min i 16)).map (bitAt s)) ((List.range (i - 16)).map fun t => bitAt s (16 + t)) (by simp; omega) (by simp; omega) _ (by
      by_cases h16 : i < 16
      · rw [if_pos h16]
        rw [show min (i + 1) 16 = min i 16 + 1 by omega, show i + 1 - 16 = i - 16 by omega, List.range_succ, List.map_append, show min i 16 = i by omega] at hn
        rw [show min i 16 = i by omega]
        exact hn
      · rw [if_neg h16]
        rw [show min (i + 1) 16 = min i 16 by omega, show i + 1 - 16 = (i - 16) + 1 by omega, List.range_succ, List.map_append] at hn
        rw [show i = 16 + (i - 16) by omega] at hn ⊢
        simpa using hn) (i % 8) 0 (by omega) (by omega)
    refine Ev.step (fun k => ?_) h1
    have hdv : wrap64 (Int.tdiv (i : Int) 8) = ((i / 8 : Nat) : Int) := by rw [tdiv_nn (by omega), w64 (by omega) (by omega)]; omega
    simp only [spec_ReadBits.l0, hdv]
    rw [if_pos (by omega), if_pos (by omega), if_pos (by omega), w64 (x := bt s ((i / 8 : Nat) : Int)) (by omega) (by omega)]
    rw [show (bt s ((i / 8 : Nat) : Int)) = (((bt s ((i / 8 : Nat) : Int)).toNat / 2 ^ 0 : Nat) : Int) by rw [Nat.pow_zero, Nat.div_one, Int.toNat_of_nonneg hb.1]]
    simp only [Nat.pow_zero, Nat.div_one, Int.toNat_natCast]
    rfl
theorem spec_readbits (s : ByteArray) : Ev (fun k => spec_ReadBits.f k s) (RB s) := by
  unfold spec_ReadBits.f RB
  by_cases h : s.size = 3
  · have hs : (s.size : Int) = 3 := by omega
    simp only [if_pos h, if_pos hs]
    have h0 := l0_loop s h 24 0 (by omega) (by omega)
    exact h0
  · exact Ev.now' fun k => by rw [if_neg (by omega), if_neg h]

theorem laws_eqBoolS_loop (l : List (Bool)) (hl : l.length ≤ 1048576) (d : Nat) : ∀ (i : Int), 0 ≤ i → i ≤ l.length → (l.length : Int) - i = d → Ev (fun k => laws_eqBoolS.l0 k l l i) true := by
  induction d with
  | zero =>
    intro i h0 h1 hd
    exact Ev.last (fun k => by simp only [laws_eqBoolS.l0]; rw [if_neg (by omega)])
  | succ d ih =>
    intro i h0 h1 hd
    have hw : wrap64 (i + 1) = i + 1 := w64 (by omega) (by omega)
    refine Ev.step (fun k => ?_) (ih (i + 1) (by omega) (by omega) (by omega))
    simp only [laws_eqBoolS.l0]
    rw [if_pos (by omega), if_pos h0, if_pos (by omega), hw]
    simp
theorem laws_eqBoolS_refl (l : List (Bool)) (hl : l.length ≤ 1048576) : Ev (fun k => laws_eqBoolS.f k l l) true := by
  refine Ev.congr (fun k => ?_) (laws_eqBoolS_loop l hl l.length 0 (by omega) (by omega) (by omega))
  unfold laws_eqBoolS.f
  rw [if_pos rfl]

theorem eqBits_ev (a b : List Bool) (ha : a.length ≤ 1048576) (hb : b.length ≤ 1048576) : Ev (fun k => laws_eqBits.f k a b a b) true := by
  unfold laws_eqBits.f
  exact Ev.bind (laws_eqBoolS_refl a ha) (Ev.bind (laws_eqBoolS_refl b hb) (Ev.now _))

def laws_markBoolS_marks (m : Int) (n : Nat) : List (Bool) := (List.range n).map fun j : Nat => (fun x1 : Int => (Int.tmod x1 3 == 0)) (m + (j : Int))
theorem laws_markBoolS_marks_length (m : Int) (n : Nat) : (laws_markBoolS_marks m n).length = n := by simp [laws_markBoolS_marks]
theorem laws_markBoolS_marks_at (m : Int) (n i : Nat) (h : i < n) (d : Bool) : (laws_markBoolS_marks m n).getD i d = (fun x1 : Int => (Int.tmod x1 3 == 0)) (m + i) := by
  unfold laws_markBoolS_marks
  rw [List.getD_eq_getElem?_getD, List.getElem?_map, List.getElem?_range h]
  rfl
theorem laws_markBoolS_loop (m : Int) (n : Nat) (hn : n ≤ 1048576) (m0 : 0 ≤ m) (m1 : m ≤ 1000000000) (d : Nat) : ∀ (x : List (Bool)) (i : Nat), x.length = n → i ≤ n → n - i = d → x.take i = (laws_markBoolS_marks m n).take i → Ev (fun k => laws_markBoolS.l0 k x (m + i) (i : Int)) (m + n, laws_markBoolS_marks m n) := by
  induction d with
  | zero =>
    intro x i hx hi hd ht
    obtain rfl : i = n := by omega
    have e : x = laws_markBoolS_marks m i := take_all (by rw [hx, laws_markBoolS_marks_length]) (by rw [laws_markBoolS_marks_length]; exact ht)
    subst e
    exact Ev.last (fun k => by simp only [laws_markBoolS.l0]; rw [if_neg (by omega)])
  | succ d ih =>
    intro x i hx hi hd ht
    have hs := set_take (laws_markBoolS_marks m n) x false i (by rw [laws_markBoolS_marks_length]; omega) (by rw [hx, laws_markBoolS_marks_length]) ht
    rw [laws_markBoolS_marks_at m n i (by omega)] at hs
    refine Ev.step (fun k => ?_) (ih (x.set i ((fun x1 : Int => (Int.tmod x1 3 == 0)) (m + i))) (i + 1) (by rw [List.length_set]; exact hx) (by omega) (by omega) hs)
    simp only [laws_markBoolS.l0]
    rw [if_pos (by omega), if_pos (by omega), w64 (x := m + i + 1) (by omega) (by omega), w64 (x := (i : Int) + 1) (by omega) (by omega), Int.toNat_natCast, show m + (i : Int) + 1 = m + ((i + 1 : Nat) : Int) by omega, show (i : Int) + 1 = ((i + 1 : Nat) : Int) by omega]
theorem laws_markBoolS_ev (l : List (Bool)) (m : Int) (hn : l.length ≤ 1048576) (m0 : 0 ≤ m) (m1 : m ≤ 1000000000) : Ev (fun k => laws_markBoolS.f k l m) (m + l.length, laws_markBoolS_marks m l.length) := by
  have h := laws_markBoolS_loop m l.length hn m0 m1 l.length l 0 rfl (by omega) (by omega) (by simp)
  refine Ev.congr (fun k => ?_) h
  unfold laws_markBoolS.f
  simp
theorem laws_heldBoolS_loop (m : Int) (n : Nat) (hn : n ≤ 1048576) (m0 : 0 ≤ m) (m1 : m ≤ 1000000000) (d : Nat) : ∀ (i : Nat), i ≤ n → n - i = d → Ev (fun k => laws_heldBoolS.l0 k (laws_markBoolS_marks m n) (m + i) (i : Int)) (m + n) := by
  induction d with
  | zero =>
    intro i hi hd
    obtain rfl : i = n := by omega
    exact Ev.last (fun k => by simp only [laws_heldBoolS.l0, laws_markBoolS_marks_length]; rw [if_neg (by omega)])
  | succ d ih =>
    intro i hi hd
    refine Ev.step (fun k => ?_) (ih (i + 1) (by omega) (by omega))
    have e : rdOf false (laws_markBoolS_marks m n) (i : Int) = (fun x1 : Int => (Int.tmod x1 3 == 0)) (m + i) := laws_markBoolS_marks_at m n i (by omega) _
    simp only [laws_heldBoolS.l0, laws_markBoolS_marks_length, e]
    rw [if_pos (by omega), if_pos (by omega), w64 (x := m + i + 1) (by omega) (by omega), w64 (x := (i : Int) + 1) (by omega) (by omega), show m + (i : Int) + 1 = m + ((i + 1 : Nat) : Int) by omega, show (i : Int) + 1 = ((i + 1 : Nat) : Int) by omega]
    simp
theorem laws_heldBoolS_ev (m : Int) (n : Nat) (hn : n ≤ 1048576) (m0 : 0 ≤ m) (m1 : m ≤ 1000000000) : Ev (fun k => laws_heldBoolS.f k (laws_markBoolS_marks m n) m) (m + n) := by
  have h := laws_heldBoolS_loop m n hn m0 m1 n 0 (by omega) (by omega)
  refine Ev.congr (fun k => ?_) h
  unfold laws_heldBoolS.f
  simp

theorem markBits_ev (a b : List Bool) (ha : a.length ≤ 1048576) (hb : b.length ≤ 1048576) : Ev (fun k => laws_markBits.f k a b 1) (1 + a.length + b.length, laws_markBoolS_marks 1 a.length, laws_markBoolS_marks (1 + a.length) b.length) := by
  unfold laws_markBits.f
  exact Ev.bind (laws_markBoolS_ev a 1 ha (by omega) (by omega)) (Ev.bind (laws_markBoolS_ev b (1 + a.length) hb (by omega) (by omega)) (Ev.now _))
theorem heldBits_ev (m n : Nat) (ha : m ≤ 1048576) (hb : n ≤ 1048576) : Ev (fun k => laws_heldBits.f k (laws_markBoolS_marks 1 m) (laws_markBoolS_marks (1 + m) n) 1) (1 + m + n) := by
  unfold laws_heldBits.f
  refine Ev.bind (laws_heldBoolS_ev 1 m ha (by omega) (by omega)) ?_
  simp only [if_neg (show ¬ (1 + (m : Int)) < 0 by omega)]
  exact Ev.bind (laws_heldBoolS_ev (1 + m) n hb (by omega) (by omega)) (Ev.now' fun _ => by rw [if_neg (by omega)])

theorem FnExactReadBits : laws_FnExactReadBits.Pure := by
  intro s hs
  unfold laws_FnExactReadBits.f
  by_cases h : (s.size : Int) > 1048576
  · exact ⟨0, by rw [if_pos h]⟩
  · simp only [if_neg h]
    have hl := rb_len s
    have e1 := spec_readbits s
    have e2 := impl_readbits s
    generalize RB s = r at hl e1 e2
    obtain ⟨x, y, ok⟩ := r
    obtain ⟨hx, hy⟩ := hl
    simp only at hx hy
    refine Ev.rounds (Ev.bind e1 (Ev.bind e2 (Ev.bind (eqBits_ev x y hx hy) ?_)))
    simp only [if_true, bne_self_eq_false]
    refine Ev.step (f := fun k => (laws_markBits.f k x y 1).bind fun b => (laws_heldBits.f k b.2.1 b.2.2 1).bind fun t => if t < 0 then some false else if t = b.1 then (impl_ReadBits.f k s).bind fun c => (laws_eqBits.f k c.1 c.2.1 x y).bind fun t => if t = true then laws_FnExactReadBits.j1 k b.1 (c.2.2 != ok) b.2.1 b.2.2 else laws_FnExactReadBits.j1 k b.1 true b.2.1 b.2.2 else some false) (fun k => by simp only [laws_FnExactReadBits.j0]; rfl) ?_
    refine Ev.bind (markBits_ev x y hx hy) (Ev.bind (heldBits_ev x.length y.length hx hy) ?_)
    simp only [if_neg (show ¬ (1 + (x.length : Int) + (y.length : Int)) < 0 by omega), if_true]
    refine Ev.bind e2 (Ev.bind (eqBits_ev x y hx hy) ?_)
    simp only [if_true, bne_self_eq_false]
    refine Ev.step (f := fun k => (laws_heldBits.f k (laws_markBoolS_marks 1 x.length) (laws_markBoolS_marks (1 + x.length) y.length) 1).bind fun t => if t < 0 then some false else if t = 1 + (x.length : Int) + (y.length : Int) then some true else some false) (fun k => by simp only [laws_FnExactReadBits.j1]; rfl) ?_
    refine Ev.bind (heldBits_ev x.length y.length hx hy) (Ev.now' fun _ => ?_)
    rw [if_neg (by omega), if_pos rfl]
end Go.Proofs.Ytfkjjehkngmgaaa.Pure
