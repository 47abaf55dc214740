/- FnTurned: what the law's functions answer at every draw: a text whose one byte is another is not Unsealed; it is Unsealed as it was sealed; SumMore goes on. No condition. (The law's own walk is by hand: the Law text.) -/
import Derived.Test.YtfkjjehkngmgaaaPFnTurnedx2
import Derived.Test.YtfkjjehkngmgaaaAid
namespace Go.Proofs.Ytfkjjehkngmgaaa.Pure
open Go.RowKit Go.Proofs.Ytfkjjehkngmgaaa.PFnTurned Go.Proofs.YtfkjjehkngmgaaaW.PrintWords Go.Proofs.YtfkjjehkngmgaaaW.PrintLast Go.Proofs.YtfkjjehkngmgaaaW.PrintMore Go.Proofs.Ytfkjjehkngmgaaa.Aid
set_option linter.unusedVariables false
set_option linter.unusedSimpArgs false

theorem xor_range (x y : Int) : 0 ≤ Go.bits .xor .u32 x y ∧ Go.bits .xor .u32 x y < 4294967296 := by
  have h : Go.bits .xor .u32 x y = IntKind.u32.wrap ((BitVec.ofInt 32 x ^^^ BitVec.ofInt 32 y).toNat : Nat) := rfl
  rw [h, IntKind.wrap_u32]
  omega

theorem bt_str (xs : List Int) (i : Nat) (hi : i < xs.length) (h : ∀ x ∈ xs, 0 ≤ x ∧ x ≤ 255) : bt (strOfNums xs) (i : Int) = xs.getD i 0 := by
  unfold bt
  have hs := strOfNums_size xs
  rw [dif_pos (by rw [Int.toNat_natCast, hs]; exact hi)]
  have e : (strOfNums xs)[((i : Int)).toNat]'(by rw [Int.toNat_natCast, hs]; exact hi) = UInt8.ofNat (xs[i]).toNat := by
    show (strOfNums xs).data[((i : Int)).toNat]'_ = _
    have := strOfNums_data xs
    simp only [strOfNums, Int.toNat_natCast, List.getElem_toArray, List.getElem_map]
  have hx := h (xs[i]) (List.getElem_mem hi)
  rw [e, List.getD_eq_getElem?_getD, List.getElem?_eq_getElem hi, Option.getD_some, UInt8.toNat_ofNat']
  omega
theorem str_three (s : ByteArray) (h : s.size = 3) : strOfNums [bt s 0, bt s 1, bt s 2] = s := by
  apply toList_inj
  rw [Go.Lib.toList_data, Go.Lib.toList_data, strOfNums_data]
  have hl : s.data.toList.length = 3 := by rw [Array.length_toList]; exact h
  have hb : ∀ i : Nat, (hi : i < 3) → UInt8.ofNat (bt s (i : Int)).toNat = s.data.toList[i]'(by omega) := fun i hi => by
    unfold bt
    rw [dif_pos (by rw [Int.toNat_natCast]; omega)]
    simp only [Int.toNat_natCast]
    rw [UInt8.ofNat_toNat]
    rfl
  match hs : s.data.toList, hl with
  | [a, b, c], _ =>
    have h0 := hb 0 (by omega)
    have h1 := hb 1 (by omega)
    have h2 := hb 2 (by omega)
    simp only [hs] at h0 h1 h2
    simp only [List.map_cons, List.map_nil, List.cons.injEq, and_true]
    exact ⟨h0, h1, h2⟩

theorem bt_list (s : ByteArray) (i : Nat) : bt s (i : Int) = ((s.data.toList[i]?).map (fun c => (c.toNat : Int))).getD 0 := by
  unfold bt
  by_cases h : i < s.size
  · have hl : i < s.data.toList.length := by rw [Array.length_toList]; exact h
    rw [dif_pos (by rw [Int.toNat_natCast]; exact h), List.getElem?_eq_getElem hl]
    simp only [Int.toNat_natCast, Option.map_some, Option.getD_some]
    rfl
  · have hl : s.data.toList.length ≤ i := by rw [Array.length_toList]; exact Nat.le_of_not_lt h
    rw [dif_neg (by rw [Int.toNat_natCast]; exact h), List.getElem?_eq_none hl]
    rfl
theorem dlen (s : ByteArray) : s.data.toList.length = s.size := by rw [Array.length_toList]; rfl
theorem app_data (a b : ByteArray) : (a ++ b).data.toList = a.data.toList ++ b.data.toList := by rw [ByteArray.data_append, Array.toList_append]
theorem bt_right (a b : ByteArray) (i : Nat) : bt (a ++ b) ((a.size + i : Nat) : Int) = bt b (i : Int) := by
  rw [bt_list, bt_list, app_data, List.getElem?_append_right (by rw [dlen]; omega), dlen, Nat.add_sub_cancel_left]
theorem bt_left (a b : ByteArray) (i : Nat) (h : i < a.size) : bt (a ++ b) (i : Int) = bt a (i : Int) := by
  rw [bt_list, bt_list, app_data, List.getElem?_append_left (by rw [dlen]; exact h)]
theorem ext_mid (a b c : ByteArray) : (a ++ (b ++ c)).extract a.size (a.size + b.size) = b := by
  apply toList_inj
  rw [Go.Lib.toList_data, Go.Lib.toList_data, Go.Lib.extract_data, app_data, app_data, ← dlen a, List.drop_left, Nat.add_sub_cancel_left, ← dlen b, List.take_left]
theorem bt_one (c : Int) (h0 : 0 ≤ c) (h1 : c ≤ 255) : bt (strOfNums [c]) 0 = c := by
  have h := bt_str [c] 0 (by simp) (fun x hx => by rw [List.mem_singleton.1 hx]; exact ⟨h0, h1⟩)
  exact h

theorem xor_nat {x y : Int} (x0 : 0 ≤ x) (x1 : x < 4294967296) (y0 : 0 ≤ y) (y1 : y < 4294967296) : Go.bits .xor .u32 x y = ((x.toNat ^^^ y.toNat : Nat) : Int) := by
  have h : Go.bits .xor .u32 x y = IntKind.u32.wrap ((BitVec.ofInt 32 x ^^^ BitVec.ofInt 32 y).toNat : Nat) := rfl
  have hx : (BitVec.ofInt 32 x).toNat = x.toNat := by rw [BitVec.toNat_ofInt]; omega
  have hy : (BitVec.ofInt 32 y).toNat = y.toNat := by rw [BitVec.toNat_ofInt]; omega
  have hl := Nat.xor_lt_two_pow (x := x.toNat) (y := y.toNat) (n := 32) (by omega) (by omega)
  rw [h, IntKind.wrap_u32, BitVec.toNat_xor, hx, hy]
  omega
theorem nxor_inj {a b p : Nat} (h : a ^^^ p = b ^^^ p) : a = b := by
  have q := congrArg (· ^^^ p) h
  simpa [Nat.xor_assoc, Nat.xor_self] using q
theorem xor_inj {x y p : Int} (x0 : 0 ≤ x) (x1 : x < 4294967296) (y0 : 0 ≤ y) (y1 : y < 4294967296) (p0 : 0 ≤ p) (p1 : p < 4294967296) (h : Go.bits .xor .u32 x p = Go.bits .xor .u32 y p) : x = y := by
  rw [xor_nat x0 x1 p0 p1, xor_nat y0 y1 p0 p1] at h
  have q := nxor_inj (Int.ofNat.inj h)
  omega
theorem xor_injr {x y p : Int} (x0 : 0 ≤ x) (x1 : x < 4294967296) (y0 : 0 ≤ y) (y1 : y < 4294967296) (p0 : 0 ≤ p) (p1 : p < 4294967296) (h : Go.bits .xor .u32 p x = Go.bits .xor .u32 p y) : x = y := by
  rw [xor_nat p0 p1 x0 x1, xor_nat p0 p1 y0 y1, Nat.xor_comm, Nat.xor_comm p.toNat] at h
  have q := nxor_inj (Int.ofNat.inj h)
  omega
theorem xor_top {x : Int} (x0 : 0 ≤ x) (x1 : x < 2147483648) : 2147483648 ≤ Go.bits .xor .u32 x 3558460437 := by
  rw [xor_nat x0 (by omega) (by omega) (by omega)]
  have hp : (3558460437 : Int).toNat = 3558460437 := rfl
  rw [hp]
  rcases Nat.lt_or_ge (x.toNat ^^^ 3558460437) 2147483648 with h | h
  · have q := Nat.xor_lt_two_pow (x := x.toNat) (y := x.toNat ^^^ 3558460437) (n := 31) (by omega) (by omega)
    rw [← Nat.xor_assoc, Nat.xor_self, Nat.zero_xor] at q
    omega
  · omega
/-- One round. -/
def rnd (x : Int) : Int := if Int.tmod x 2 = 1 then Go.bits .xor .u32 ((Int.tdiv x 2) % 4294967296) 3558460437 else (Int.tdiv x 2) % 4294967296
theorem rnd_range {x : Int} : 0 ≤ rnd x ∧ rnd x < 4294967296 := by
  unfold rnd
  split
  · exact xor_range _ _
  · omega
theorem rnd_inj {x y : Int} (x0 : 0 ≤ x) (x1 : x < 4294967296) (y0 : 0 ≤ y) (y1 : y < 4294967296) (h : rnd x = rnd y) : x = y := by
  unfold rnd at h
  rw [tmod_nn x0, tmod_nn y0, tdiv_nn x0, tdiv_nn y0] at h
  have ex : x / 2 % 4294967296 = x / 2 := by omega
  have ey : y / 2 % 4294967296 = y / 2 := by omega
  rw [ex, ey] at h
  have tx := xor_top (x := x / 2) (by omega) (by omega)
  have ty := xor_top (x := y / 2) (by omega) (by omega)
  by_cases hx : x % 2 = 1
  · by_cases hy : y % 2 = 1
    · rw [if_pos hx, if_pos hy] at h
      have q := xor_inj (by omega) (by omega) (by omega) (by omega) (by omega) (by omega) h
      clear h tx ty
      omega
    · rw [if_pos hx, if_neg hy] at h
      rw [h] at tx
      clear h ty
      omega
  · by_cases hy : y % 2 = 1
    · rw [if_neg hx, if_pos hy] at h
      rw [← h] at ty
      clear h tx
      omega
    · rw [if_neg hx, if_neg hy] at h
      clear tx ty
      omega
/-- Rounds, one after another. -/
def rnds : Nat → Int → Int
  | 0, x => x
  | n + 1, x => rnds n (rnd x)
theorem rnds_range (n : Nat) : ∀ x, 0 ≤ x → x < 4294967296 → 0 ≤ rnds n x ∧ rnds n x < 4294967296 := by
  induction n with
  | zero => intro x h0 h1; exact ⟨h0, h1⟩
  | succ n ih => intro x _ _; exact ih _ rnd_range.1 rnd_range.2
theorem rnds_inj (n : Nat) : ∀ x y, 0 ≤ x → x < 4294967296 → 0 ≤ y → y < 4294967296 → rnds n x = rnds n y → x = y := by
  induction n with
  | zero => intro x y _ _ _ _ h; exact h
  | succ n ih =>
    intro x y x0 x1 y0 y1 h
    exact rnd_inj x0 x1 y0 y1 (ih _ _ rnd_range.1 rnd_range.2 rnd_range.1 rnd_range.2 h)
/-- What one byte does to the sum. -/
def bstep (x b : Int) : Int := rnds 8 (Go.bits .xor .u32 x (b % 4294967296))
theorem bstep_range (x b : Int) : 0 ≤ bstep x b ∧ bstep x b < 4294967296 := rnds_range 8 _ (xor_range _ _).1 (xor_range _ _).2
theorem bstep_inj {x y b : Int} (x0 : 0 ≤ x) (x1 : x < 4294967296) (y0 : 0 ≤ y) (y1 : y < 4294967296) (h : bstep x b = bstep y b) : x = y :=
  xor_inj x0 x1 y0 y1 (by omega) (by omega) (rnds_inj 8 _ _ (xor_range _ _).1 (xor_range _ _).2 (xor_range _ _).1 (xor_range _ _).2 h)
theorem bstep_injr {x b c : Int} (x0 : 0 ≤ x) (x1 : x < 4294967296) (b0 : 0 ≤ b) (b1 : b ≤ 255) (c0 : 0 ≤ c) (c1 : c ≤ 255) (h : bstep x b = bstep x c) : b = c := by
  have q := xor_injr (by omega) (by omega) (by omega) (by omega) x0 x1 (rnds_inj 8 _ _ (xor_range _ _).1 (xor_range _ _).2 (xor_range _ _).1 (xor_range _ _).2 h)
  clear h
  omega
/-- The sum over m bytes from i on. -/
def crcAt (t : ByteArray) : Nat → Nat → Int → Int
  | _, 0, x => x
  | i, m + 1, x => crcAt t (i + 1) m (bstep x (bt t (i : Int)))
theorem crcAt_range (t : ByteArray) (m : Nat) : ∀ i x, 0 ≤ x → x < 4294967296 → 0 ≤ crcAt t i m x ∧ crcAt t i m x < 4294967296 := by
  induction m with
  | zero => intro i x h0 h1; exact ⟨h0, h1⟩
  | succ m ih => intro i x _ _; exact ih _ _ (bstep_range _ _).1 (bstep_range _ _).2
theorem crcAt_inj (t : ByteArray) (m : Nat) : ∀ i x y, 0 ≤ x → x < 4294967296 → 0 ≤ y → y < 4294967296 → crcAt t i m x = crcAt t i m y → x = y := by
  induction m with
  | zero => intro i x y _ _ _ _ h; exact h
  | succ m ih =>
    intro i x y x0 x1 y0 y1 h
    exact bstep_inj x0 x1 y0 y1 (ih _ _ _ (bstep_range _ _).1 (bstep_range _ _).2 (bstep_range _ _).1 (bstep_range _ _).2 h)
theorem crcAt_same (t u : ByteArray) (m : Nat) : ∀ i x, (∀ j : Nat, i ≤ j → j < i + m → bt t (j : Int) = bt u (j : Int)) → crcAt t i m x = crcAt u i m x := by
  induction m with
  | zero => intro i x _; rfl
  | succ m ih =>
    intro i x h
    show crcAt t (i + 1) m _ = crcAt u (i + 1) m _
    rw [h i (Nat.le_refl _) (by omega)]
    exact ih (i + 1) _ (fun j h1 h2 => h j (by omega) (by omega))
/-- One other byte, another sum. -/
theorem crcAt_other (t u : ByteArray) (m : Nat) : ∀ a i x, a ≤ i → i < a + m → 0 ≤ x → x < 4294967296 → (∀ j : Nat, j ≠ i → a ≤ j → j < a + m → bt t (j : Int) = bt u (j : Int)) → bt t (i : Int) ≠ bt u (i : Int) → crcAt t a m x ≠ crcAt u a m x := by
  induction m with
  | zero => intro a i x h0 h1; omega
  | succ m ih =>
    intro a i x h0 h1 x0 x1 h hi e
    by_cases ha : a = i
    · subst ha
      have e' : crcAt t (a + 1) m (bstep x (bt t (a : Int))) = crcAt t (a + 1) m (bstep x (bt u (a : Int))) := by
        refine Eq.trans e (crcAt_same u t m (a + 1) _ (fun j h1 h2 => ?_))
        exact (h j (by omega) (by omega) (by omega)).symm
      have q := crcAt_inj t m (a + 1) _ _ (bstep_range _ _).1 (bstep_range _ _).2 (bstep_range _ _).1 (bstep_range _ _).2 e'
      have bt0 := bt_range t (a : Int)
      have bu0 := bt_range u (a : Int)
      exact hi (bstep_injr x0 x1 bt0.1 bt0.2 bu0.1 bu0.2 q)
    · refine ih (a + 1) i (bstep x (bt t (a : Int))) (by omega) (by omega) (bstep_range _ _).1 (bstep_range _ _).2 (fun j h1 h2 h3 => h j h1 (by omega) (by omega)) hi ?_
      have e1 : crcAt t (a + 1) m (bstep x (bt t (a : Int))) = crcAt u (a + 1) m (bstep x (bt u (a : Int))) := e
      rw [← h a ha (Nat.le_refl _) (by omega)] at e1
      exact e1
theorem crcAt_snoc (t : ByteArray) (m : Nat) : ∀ a x, crcAt t a (m + 1) x = bstep (crcAt t a m x) (bt t ((a + m : Nat) : Int)) := by
  induction m with
  | zero => intro a x; rfl
  | succ m ih =>
    intro a x
    show crcAt t (a + 1) (m + 1) _ = bstep (crcAt t (a + 1) m _) _
    rw [ih (a + 1), show a + 1 + m = a + (m + 1) by omega]
theorem summore_bits (t : ByteArray) (i : Int) (d : Nat) : ∀ (x j : Int), 0 ≤ j → 8 - j = d → ∀ r, (∀ y, y = rnds d x → Ev (fun k => impl_SumMore.l0 k y t (wrap64 (i + 1))) r) → Ev (fun k => impl_SumMore.l1 k x t i j) r := by
  induction d with
  | zero =>
    intro x j h0 hd r hr
    exact Ev.step (fun k => by simp only [impl_SumMore.l1]; rw [if_neg (by omega)]) (hr x rfl)
  | succ d ih =>
    intro x j h0 hd r hr
    have hw : wrap64 (j + 1) = j + 1 := w64 (by omega) (by omega)
    refine Ev.step (f := fun k => impl_SumMore.l1 k (rnd x) t i (j + 1)) (fun k => ?_) (ih (rnd x) (j + 1) (by omega) (by omega) r hr)
    simp only [impl_SumMore.l1, hw]
    rw [if_pos (by omega)]
    unfold rnd
    by_cases ho : Int.tmod x 2 = 1
    · rw [if_pos ho, if_pos ho]
    · rw [if_neg ho, if_neg ho]
theorem summore_loop (t : ByteArray) (ht : t.size ≤ 140737488351232) (m : Nat) : ∀ (x : Int) (i : Nat), i + m = t.size → Ev (fun k => impl_SumMore.l0 k x t (i : Int)) (crcAt t i m x) := by
  induction m with
  | zero =>
    intro x i h
    exact Ev.last (fun k => by simp only [impl_SumMore.l0]; rw [if_neg (by omega)]; rfl)
  | succ m ih =>
    intro x i h
    have hw : wrap64 ((i : Int) + 1) = ((i + 1 : Nat) : Int) := by rw [w64 (by omega) (by omega)]; omega
    refine Ev.step (f := fun k => impl_SumMore.l1 k (Go.bits .xor .u32 x ((bt t (i : Int)) % 4294967296)) t (i : Int) 0) (fun k => ?_) (summore_bits t (i : Int) 8 _ 0 (by omega) (by omega) _ (fun y hy => ?_))
    · simp only [impl_SumMore.l0]
      rw [if_pos (by omega), if_pos (by omega)]
    · rw [hw, hy]
      exact ih _ (i + 1) (by omega)
theorem summore_ev (t : ByteArray) (ht : t.size ≤ 140737488351232) (x : Int) : Ev (fun k => impl_SumMore.f k x t) (crcAt t 0 t.size x) := by
  unfold impl_SumMore.f
  exact summore_loop t ht t.size x 0 (by omega)
/-- A text's sum. -/
def crc (t : ByteArray) : Int := crcAt t 0 t.size 4294967295
theorem crc_range (t : ByteArray) : 0 ≤ crc t ∧ crc t < 4294967296 := crcAt_range t _ _ _ (by omega) (by omega)
theorem crc_ev (t : ByteArray) (ht : t.size ≤ 140737488351232) : Ev (fun k => impl_SumOf.f k t) (crc t) := by
  unfold impl_SumOf.f
  exact Ev.bind (summore_ev t ht 4294967295) (Ev.now' fun _ => rfl)

/-- The four bytes of a sum, the highest first. -/
def four (x : Int) : ByteArray := strOfNums [(x / 16777216) % 256, (x / 65536) % 256, (x / 256) % 256, x % 256]
theorem four_size (x : Int) : (four x).size = 4 := rfl

theorem high_ev (x : Int) (h0 : 0 ≤ x) (h1 : x < 4294967296) : Ev (fun k => impl_highFirst.f k x 4) (four x) := by
  refine Ev.at_ 5 (fun k hk => ?_)
  obtain ⟨k, rfl⟩ : ∃ m, k = m + 5 := ⟨k - 5, by omega⟩
  unfold impl_highFirst.f
  rw [if_pos (by omega), if_pos (by decide), show wrap64 (4 - 1) = 3 by decide +kernel, show List.replicate (4 : Int).toNat (0 : Int) = [0, 0, 0, 0] from rfl]
  simp only [impl_highFirst.l0]
  simp only [show wrap64 (3 - 1) = 2 by decide +kernel, show wrap64 (2 - 1) = 1 by decide +kernel, show wrap64 (1 - 1) = 0 by decide +kernel, show wrap64 (0 - 1) = -1 by decide +kernel]
  simp only [and255]
  simp only [show Int.toNat 3 = 3 from rfl, show Int.toNat 2 = 2 from rfl, show Int.toNat 1 = 1 from rfl, show Int.toNat 0 = 0 from rfl, List.set_cons_succ, List.set_cons_zero, List.length_cons, List.length_nil]
  rw [if_pos (by omega), if_pos (by omega), if_pos (by omega), if_pos (by omega), if_pos (by omega), if_pos (by omega), if_pos (by omega), if_pos (by omega), if_pos (by omega), if_pos (by omega), if_pos (by omega), if_pos (by omega), if_neg (by omega)]
  unfold four
  congr 2
  simp only [List.cons.injEq, and_true]
  omega

theorem size_extract (s : ByteArray) (i j : Nat) (hj : j ≤ s.size) : (s.extract i j).size = j - i := by
  rw [ByteArray.size_extract]
  omega
theorem split_at (s : ByteArray) (n : Nat) (h : n ≤ s.size) : s.extract 0 n ++ s.extract n s.size = s := by
  apply toList_inj
  rw [Go.Lib.toList_data, Go.Lib.toList_data, ByteArray.data_append, Array.toList_append, Go.Lib.extract_data, Go.Lib.extract_data]
  have hl : s.data.toList.length = s.size := by rw [Array.length_toList]; rfl
  rw [List.drop_zero, Nat.sub_zero, List.take_of_length_le (l := List.drop n s.data.toList) (by rw [List.length_drop, hl]; omega), List.take_append_drop]

theorem sealed_is (s : ByteArray) (hs : s.size ≤ 20000) : Ev (fun k => impl_Sealed.f k s) (s ++ four (crc s), true) := by
  have r0 := (crc_range s).1
  have r1 := (crc_range s).2
  have h2 := crc_ev s (by omega)
  unfold impl_Sealed.f
  refine Ev.congr (f := fun k => (impl_SumOf.f k s).bind fun t => (impl_highFirst.f k (wrap64 t) 4).bind fun u => if s.size + u.size ≤ 9223372036854775807 then some (s ++ u, true) else none) (fun k => by rw [if_neg (by omega)]) ?_
  refine Ev.bind h2 ?_
  rw [w64 (by omega) (by omega)]
  exact Ev.bind (high_ev (crc s) r0 r1) (Ev.now' fun k => by rw [four_size, if_pos (by omega)])

theorem new_ends (s : List Int) (hs : s.length ≤ 140737488351232) (d : Nat) : ∀ (h i : Int), 0 ≤ i → i ≤ s.length → (s.length : Int) - i = d → ∃ h', Ev (fun k => spec_l01New.l0 k s h i) (s, 0, h') := by
  induction d with
  | zero =>
    intro h i h0 h1 hd
    exact ⟨h, Ev.last (fun k => by simp only [spec_l01New.l0]; rw [if_neg (by omega)])⟩
  | succ d ih =>
    intro h i h0 h1 hd
    by_cases hf : i < 4000
    · obtain ⟨h', hr⟩ := ih (Go.bits .and .i64 (wrap64 ((wrap64 ((wrap64 (h * 131)) + (wrap64 (rd s i)))) + 7)) 1073741823) (i + 1) (by omega) (by omega) (by omega)
      exact ⟨h', Ev.step (fun k => by simp only [spec_l01New.l0]; rw [if_pos (by omega), if_pos hf, if_pos h0, w64 (x := i + 1) (by omega) (by omega)]) hr⟩
    · exact ⟨h, Ev.last (fun k => by simp only [spec_l01New.l0]; rw [if_pos (by omega), if_neg hf])⟩
theorem new_ev (s : List Int) (hs : s.length ≤ 140737488351232) : ∃ h, Ev (fun k => spec_l01New.f k s) (s, 0, h) := by
  obtain ⟨h, hr⟩ := new_ends s hs s.length (wrap64 (37701 + (s.length : Int))) 0 (by omega) (by omega) (by omega)
  exact ⟨h, hr⟩

theorem byte_some (s : List Int) (hs : s.length ≤ 140737488351232) (i h : Int) (h0 : 0 ≤ i) (h1 : i ≤ s.length) : ∃ b i' h', spec_l01Byte.f s i h = some (b, i', h') ∧ 0 ≤ b ∧ b ≤ 255 ∧ 0 ≤ i' ∧ i' ≤ s.length := by
  unfold spec_l01Byte.f
  by_cases hi : i < (s.length : Int)
  · rw [if_pos hi, if_pos h0, w64 (x := i + 1) (by omega) (by omega), and255]
    exact ⟨_, _, _, rfl, by omega, by omega, by omega, by omega⟩
  · rw [if_neg hi, and255]
    exact ⟨_, _, _, rfl, by omega, by omega, by omega, by omega⟩

theorem below_some (s : List Int) (hs : s.length ≤ 140737488351232) (i h n : Int) (h0 : 0 ≤ i) (h1 : i ≤ s.length) : ∃ r i' h', spec_l01Below.f s i h n = some (r, i', h') ∧ 0 ≤ i' ∧ i' ≤ s.length ∧ 0 ≤ r ∧ (n ≤ 0 → r = 0) ∧ (0 < n → r < n) := by
  unfold spec_l01Below.f
  by_cases hn : n ≤ 0
  · rw [if_pos hn]
    exact ⟨_, _, _, rfl, h0, h1, by omega, fun _ => rfl, fun h => by omega⟩
  · rw [if_neg hn]
    by_cases hm : n ≤ 256
    · rw [if_pos hm]
      obtain ⟨b, i1, h1', e, b0, b1, c0, c1⟩ := byte_some s hs i h h0 h1
      rw [e]
      simp only [Option.bind_some]
      rw [if_neg (by omega), tmod_nn b0]
      have p0 := Int.emod_nonneg b (show n ≠ 0 by omega)
      have p1 := Int.emod_lt_of_pos b (show 0 < n by omega)
      exact ⟨_, _, _, rfl, c0, c1, p0, fun h => by omega, fun _ => p1⟩
    · rw [if_neg hm]
      obtain ⟨a, i1, g1, e1, a0, a1, c0, c1⟩ := byte_some s hs i h h0 h1
      rw [e1]
      simp only [Option.bind_some]
      obtain ⟨b, i2, g2, e2, b0, b1, d0, d1⟩ := byte_some s hs i1 g1 c0 c1
      rw [e2]
      simp only [Option.bind_some]
      obtain ⟨c, i3, g3, e3, k0, k1, f0, f1⟩ := byte_some s hs i2 g2 d0 d1
      rw [e3]
      simp only [Option.bind_some]
      obtain ⟨d, i4, g4, e4, l0, l1, m0, m1⟩ := byte_some s hs i3 g3 f0 f1
      rw [e4]
      simp only [Option.bind_some]
      rw [if_neg (by omega), w64 (x := a * 16777216) (by omega) (by omega), w64 (x := b * 65536) (by omega) (by omega), w64 (x := c * 256) (by omega) (by omega), w64 (x := a * 16777216 + b * 65536) (by omega) (by omega),
        w64 (x := a * 16777216 + b * 65536 + c * 256) (by omega) (by omega), w64 (x := a * 16777216 + b * 65536 + c * 256 + d) (by omega) (by omega), tmod_nn (by omega)]
      have p0 := Int.emod_nonneg (a * 16777216 + b * 65536 + c * 256 + d) (show n ≠ 0 by omega)
      have p1 := Int.emod_lt_of_pos (a * 16777216 + b * 65536 + c * 256 + d) (show 0 < n by omega)
      exact ⟨_, _, _, rfl, m0, m1, p0, fun h => by omega, fun _ => p1⟩

theorem text_loop (s : List Int) (hs : s.length ≤ 140737488351232) (n : Int) (hn : n ≤ 5000) (d : Nat) : ∀ (l : List Int) (j i h : Int), 0 ≤ j → j ≤ n → n - j = d → l.length = j → 0 ≤ i → i ≤ s.length → ∃ t i' h', Ev (fun k => spec_l01Text.l0 k n l j s i h) (t, i', h') ∧ (t.size : Int) = n ∧ 0 ≤ i' ∧ i' ≤ s.length := by
  induction d with
  | zero =>
    intro l j i h j0 j1 hd hl h0 h1
    exact ⟨strOfNums l, i, h, Ev.last (fun k => by simp only [spec_l01Text.l0]; rw [if_neg (by omega)]), by rw [strOfNums_size]; omega, h0, h1⟩
  | succ d ih =>
    intro l j i h j0 j1 hd hl h0 h1
    obtain ⟨b, i1, g1, e, _, _, i0, i2⟩ := byte_some s hs i h h0 h1
    obtain ⟨t, i', h', ht, r⟩ := ih (l ++ [b % 256]) (j + 1) i1 g1 (by omega) (by omega) (by omega) (by simp; omega) i0 i2
    refine ⟨t, i', h', Ev.step (fun k => ?_) ht, r⟩
    simp only [spec_l01Text.l0]
    rw [if_pos (by omega), e]
    simp only [Option.bind_some]
    rw [if_pos (by omega), w64 (x := j + 1) (by omega) (by omega)]
theorem text_ev (s : List Int) (hs : s.length ≤ 140737488351232) (i h n : Int) (n0 : 0 ≤ n) (n1 : n ≤ 5000) (h0 : 0 ≤ i) (h1 : i ≤ s.length) : ∃ t i' h', Ev (fun k => spec_l01Text.f k s i h n) (t, i', h') ∧ (t.size : Int) = n ∧ 0 ≤ i' ∧ i' ≤ s.length := by
  obtain ⟨t, i', h', ht, r⟩ := text_loop s hs n n1 n.toNat [] 0 i h (by omega) n0 (by omega) rfl h0 h1
  refine ⟨t, i', h', ?_, r⟩
  refine Ev.congr (fun k => ?_) (Ev.step (g := fun k => spec_l01Text.j0 k n s i h) (fun k => by simp only [spec_l01Text.j0]) ht)
  unfold spec_l01Text.f
  rw [if_neg (by omega)]

theorem places_loop (s : List Int) (hs : s.length ≤ 140737488351232) (d : Nat) : ∀ (l : List Int) (i h j : Int), 0 ≤ j → j ≤ 12 → 12 - j = d → l.length = j → (∀ x ∈ l, 0 ≤ x ∧ x < 10000) → 0 ≤ i → i ≤ s.length → ∃ r, Ev (fun k => spec_DrawPlaces.l0 k l j s i h) r ∧ r.length = 12 ∧ ∀ x ∈ r, 0 ≤ x ∧ x < 10000 := by
  induction d with
  | zero =>
    intro l i h j j0 j1 hd hl hx h0 h1
    exact ⟨l, Ev.last (fun k => by simp only [spec_DrawPlaces.l0]; rw [if_neg (by omega)]), by omega, hx⟩
  | succ d ih =>
    intro l i h j j0 j1 hd hl hx h0 h1
    obtain ⟨b, i', h', e, c0, c1, b0, _, b1⟩ := below_some s hs i h 10000 h0 h1
    obtain ⟨r, hr, hrl⟩ := ih (l ++ [b]) i' h' (j + 1) (by omega) (by omega) (by omega) (by simp; omega) (fun x hx' => by
      rcases List.mem_append.1 hx' with hx' | hx'
      · exact hx x hx'
      · rw [List.mem_singleton.1 hx']
        exact ⟨b0, b1 (by omega)⟩) c0 c1
    exact ⟨r, Ev.step (fun k => by
      simp only [spec_DrawPlaces.l0]
      rw [if_pos (by omega), e]
      simp only [Option.bind_some]
      rw [if_pos (by omega), w64 (x := j + 1) (by omega) (by omega)]) hr, hrl⟩
theorem places_ev (s : List Int) (hs : s.length ≤ 140737488351232) : ∃ r, Ev (fun k => spec_DrawPlaces.f k s) r ∧ r.length = 12 ∧ ∀ x ∈ r, 0 ≤ x ∧ x < 10000 := by
  obtain ⟨h, hn⟩ := new_ev s hs
  obtain ⟨b, i', h', e, b0, b1, c0, c1⟩ := byte_some s hs 0 h (by omega) (by omega)
  obtain ⟨r, hr, hrl⟩ := places_loop s hs 12 [] i' h' 0 (by omega) (by omega) (by omega) (by simp) (by simp) c0 c1
  refine ⟨r, ?_, hrl⟩
  unfold spec_DrawPlaces.f
  refine Ev.bind hn ?_
  simp only [e, Option.bind_some]
  exact hr

theorem bytesOf_getD (t : ByteArray) (j : Nat) : (bytesOf t).getD j 0 = bt t (j : Int) := by
  have h := rd_bytesOf t (j : Int)
  unfold rd at h
  rw [Int.toNat_natCast] at h
  exact h
theorem drawsum_ev (s : List Int) (hs : s.length ≤ 140737488351232) : ∃ t, Ev (fun k => spec_DrawSumOf.f k s) t ∧ t.size ≤ 100 := by
  obtain ⟨h, hn⟩ := new_ev s hs
  obtain ⟨r, i1, g1, e, c0, c1, r0, _, r1⟩ := below_some s hs 0 h 40 (by omega) (by omega)
  have hr := r1 (by omega)
  obtain ⟨t, i2, g2, ht, hz, _⟩ := text_ev s hs i1 g1 r r0 (by omega) c0 c1
  refine ⟨t, ?_, by omega⟩
  unfold spec_DrawSumOf.f
  refine Ev.bind hn ?_
  simp only [e, Option.bind_some]
  exact Ev.bind ht (Ev.now' fun _ => rfl)
theorem four_inj {x y : Int} (x0 : 0 ≤ x) (x1 : x < 4294967296) (y0 : 0 ≤ y) (y1 : y < 4294967296) (h : ∀ j : Nat, j < 4 → bt (four x) (j : Int) = bt (four y) (j : Int)) : x = y := by
  have rng : ∀ z : Int, ∀ q ∈ [(z / 16777216) % 256, (z / 65536) % 256, (z / 256) % 256, z % 256], 0 ≤ q ∧ q ≤ 255 := by
    intro z q hq
    simp only [List.mem_cons, List.not_mem_nil, or_false] at hq
    rcases hq with rfl | rfl | rfl | rfl <;> omega
  have key : ∀ (z : Int) (j : Nat), j < 4 → bt (four z) (j : Int) = [(z / 16777216) % 256, (z / 65536) % 256, (z / 256) % 256, z % 256].getD j 0 := fun z j hj => bt_str _ j hj (rng z)
  have h0 : (x / 16777216) % 256 = (y / 16777216) % 256 := by have q := h 0 (by omega); rw [key x 0 (by omega), key y 0 (by omega)] at q; exact q
  have h1 : (x / 65536) % 256 = (y / 65536) % 256 := by have q := h 1 (by omega); rw [key x 1 (by omega), key y 1 (by omega)] at q; exact q
  have h2 : (x / 256) % 256 = (y / 256) % 256 := by have q := h 2 (by omega); rw [key x 2 (by omega), key y 2 (by omega)] at q; exact q
  have h3 : x % 256 = y % 256 := by have q := h 3 (by omega); rw [key x 3 (by omega), key y 3 (by omega)] at q; exact q
  clear h key rng
  omega
theorem ext_left (a b : ByteArray) : (a ++ b).extract 0 a.size = a := by
  have e : (⟨#[]⟩ : ByteArray) ++ (a ++ b) = a ++ b := by
    apply toList_inj
    rw [Go.Lib.toList_data, Go.Lib.toList_data, app_data (⟨#[]⟩ : ByteArray)]
    rfl
  have h := ext_mid (⟨#[]⟩ : ByteArray) a b
  rw [e, show (⟨#[]⟩ : ByteArray).size = 0 from rfl, Nat.zero_add] at h
  exact h
theorem bt_ext (t : ByteArray) (n j : Nat) (hn : n ≤ t.size) (hj : j < n) : bt (t.extract 0 n) (j : Int) = bt t (j : Int) := by
  have h := split_at t n hn
  have hz : (t.extract 0 n).size = n := by rw [size_extract _ _ _ hn]; omega
  have q := bt_left (t.extract 0 n) (t.extract n t.size) j (by omega)
  rw [h] at q
  exact q.symm
theorem unsealed_is (t : ByteArray) (h4 : 4 ≤ t.size) (ht : t.size ≤ 20000) : Ev (fun k => impl_Unsealed.f k t) (if (t.extract 0 (t.size - 4) ++ four (crc (t.extract 0 (t.size - 4)))).toList = t.toList then (t.extract 0 (t.size - 4), true) else (⟨#[]⟩, false)) := by
  have hw : wrap64 ((t.size : Int) - 4) = ((t.size - 4 : Nat) : Int) := by rw [w64 (by omega) (by omega)]; omega
  have hz : (t.extract 0 (t.size - 4)).size = t.size - 4 := by rw [size_extract _ _ _ (by omega)]; omega
  unfold impl_Unsealed.f
  simp only [hw, Int.toNat_natCast]
  refine Ev.congr (f := fun k => (impl_Sealed.f k (t.extract 0 (t.size - 4))).bind fun b => if b.2 = true then (if b.1.toList = t.toList then (some (t.extract 0 (t.size - 4), true)) else (some ((⟨#[]⟩ : ByteArray), false))) else (some ((⟨#[]⟩ : ByteArray), false))) (fun k => by rw [if_neg (by omega), if_pos (by omega), if_pos (by omega)]) ?_
  refine Ev.bind (sealed_is _ (by omega)) (Ev.now' fun _ => ?_)
  rw [if_pos rfl]
  split <;> rfl
/-- Unsealed as it was sealed. -/
theorem unseal_seal (s : ByteArray) (hs : s.size ≤ 1000) : Ev (fun k => impl_Unsealed.f k (s ++ four (crc s))) (s, true) := by
  have hz : (s ++ four (crc s)).size = s.size + 4 := by rw [ByteArray.size_append, four_size]
  have h := unsealed_is (s ++ four (crc s)) (by omega) (by omega)
  rw [show (s ++ four (crc s)).size - 4 = s.size by omega, ext_left, if_pos rfl] at h
  exact h
/-- One other byte: not Unsealed. -/
theorem unseal_turned (s u : ByteArray) (hs : s.size ≤ 1000) (i : Nat) (hz : u.size = s.size + 4) (hi : i < u.size) (ho : ∀ j : Nat, j ≠ i → j < u.size → bt u (j : Int) = bt (s ++ four (crc s)) (j : Int)) (hne : bt u (i : Int) ≠ bt (s ++ four (crc s)) (i : Int)) : Ev (fun k => impl_Unsealed.f k u) (⟨#[]⟩, false) := by
  have h := unsealed_is u (by omega) (by omega)
  rw [show u.size - 4 = s.size by omega] at h
  have hx : (u.extract 0 s.size).size = s.size := by rw [size_extract _ _ _ (by omega)]; omega
  have bx : ∀ j : Nat, j < s.size → bt (u.extract 0 s.size) (j : Int) = bt u (j : Int) := fun j hj => bt_ext u s.size j (by omega) hj
  have bs : ∀ j : Nat, j < s.size → bt (s ++ four (crc s)) (j : Int) = bt s (j : Int) := fun j hj => bt_left s _ j hj
  have bf : ∀ j : Nat, bt (s ++ four (crc s)) ((s.size + j : Nat) : Int) = bt (four (crc s)) (j : Int) := fun j => bt_right s _ j
  rw [if_neg (fun e => ?_)] at h
  · exact h
  · have e := toList_inj e
    have bg : ∀ j : Nat, bt u ((s.size + j : Nat) : Int) = bt (four (crc (u.extract 0 s.size))) (j : Int) := fun j => by
      have q := bt_right (u.extract 0 s.size) (four (crc (u.extract 0 s.size))) j
      rw [e, hx] at q
      exact q
    have cs : crc s = crcAt s 0 s.size 4294967295 := rfl
    have cu : crc (u.extract 0 s.size) = crcAt (u.extract 0 s.size) 0 s.size 4294967295 := by unfold crc; rw [hx]
    by_cases hin : i < s.size
    · have hd : crcAt (u.extract 0 s.size) 0 s.size 4294967295 ≠ crcAt s 0 s.size 4294967295 := crcAt_other _ _ s.size 0 i _ (Nat.zero_le _) (by omega) (by omega) (by omega) (fun j h1 h2 h3 => by rw [bx j (by omega), ho j h1 (by omega), bs j (by omega)]) (by rw [bx i hin, ← bs i hin]; exact hne)
      rw [← cs, ← cu] at hd
      refine hd (four_inj (crc_range _).1 (crc_range _).2 (crc_range _).1 (crc_range _).2 (fun j hj => ?_))
      rw [← bg j, ho (s.size + j) (by omega) (by omega), bf j]
    · have he : crc (u.extract 0 s.size) = crc s := by
        rw [cs, cu]
        exact crcAt_same _ _ s.size 0 _ (fun j h1 h2 => by rw [bx j (by omega), ho j (by omega) (by omega), bs j (by omega)])
      have q := bg (i - s.size)
      rw [he, ← bf (i - s.size), show s.size + (i - s.size) = i by omega] at q
      exact hne q
/-- SumMore goes on. -/
theorem crc_more (s : ByteArray) : crcAt (⟨#[120]⟩ : ByteArray) 0 1 (crc s) = crc (s ++ (⟨#[120]⟩ : ByteArray)) := by
  have hz : (s ++ (⟨#[120]⟩ : ByteArray)).size = s.size + 1 := by rw [ByteArray.size_append]; rfl
  unfold crc
  rw [hz]
  have e3 := crcAt_snoc (s ++ (⟨#[120]⟩ : ByteArray)) s.size 0 4294967295
  have e1 : crcAt (s ++ (⟨#[120]⟩ : ByteArray)) 0 s.size 4294967295 = crcAt s 0 s.size 4294967295 := crcAt_same _ _ s.size 0 _ (fun j h1 h2 => bt_left s _ j (by omega))
  have e2 := bt_right s (⟨#[120]⟩ : ByteArray) 0
  rw [Nat.add_zero] at e2
  rw [Nat.zero_add] at e3
  rw [e3, e1, e2]
  rfl
theorem xor8_ne {x y : Int} (x0 : 0 ≤ x) (x1 : x ≤ 255) (y0 : 1 ≤ y) (y1 : y ≤ 255) : Go.bits .xor .u8 x y ≠ x ∧ 0 ≤ Go.bits .xor .u8 x y ∧ Go.bits .xor .u8 x y ≤ 255 := by
  have h : Go.bits .xor .u8 x y = IntKind.u8.wrap ((BitVec.ofInt 8 x ^^^ BitVec.ofInt 8 y).toNat : Nat) := rfl
  have hx : (BitVec.ofInt 8 x).toNat = x.toNat := by rw [BitVec.toNat_ofInt]; omega
  have hy : (BitVec.ofInt 8 y).toNat = y.toNat := by rw [BitVec.toNat_ofInt]; omega
  have hl := Nat.xor_lt_two_pow (x := x.toNat) (y := y.toNat) (n := 8) (by omega) (by omega)
  have hn : x.toNat ^^^ y.toNat ≠ x.toNat := by
    intro e
    have q := congrArg (x.toNat ^^^ ·) e
    simp only [← Nat.xor_assoc, Nat.xor_self, Nat.zero_xor] at q
    omega
  rw [h, IntKind.wrap_u8, BitVec.toNat_xor, hx, hy]
  omega
/-- ALL THAT THE WALK ASKS, AT ONE NUMBER OF ROUNDS. -/
theorem facts (l : List Int) (hl : l.length ≤ 140737488351232) : ∃ (k : Nat) (s t t' q : ByteArray) (p : List Int) (i : Nat) (c d : Int), spec_DrawSumOf.f k l = some s ∧ spec_DrawPlaces.f k l = some p ∧ p.length = 12 ∧ impl_Sealed.f k s = some (t, true) ∧ impl_Unsealed.f k t = some (s, true) ∧ s.size ≤ 1000 ∧ t.size = s.size + 4 ∧ i < t.size ∧ Int.tmod (rd p 0) (t.size : Int) = (i : Int) ∧
    strOfNums ((bytesOf t).set i (Go.bits .xor .u8 ((t.data.toList.getD i 0).toNat : Int) (IntKind.u8.wrap (wrap64 (1 + (rd p 1).tmod 255))))) = t' ∧ impl_Unsealed.f k t' = some (q, false) ∧ impl_SumOf.f k s = some c ∧ impl_SumMore.f k c ⟨#[120]⟩ = some d ∧ impl_SumOf.f k (s ++ ⟨#[120]⟩) = some d := by
  obtain ⟨s, hs, sz⟩ := drawsum_ev l hl
  obtain ⟨p, hp, hp12, hpr⟩ := places_ev l hl
  have p0 : 0 ≤ rd p 0 ∧ rd p 0 < 10000 := hpr _ (rd_mem (by omega) (by omega))
  have p1 : 0 ≤ rd p 1 ∧ rd p 1 < 10000 := hpr _ (rd_mem (by omega) (by omega))
  have htz : (s ++ four (crc s)).size = s.size + 4 := by rw [ByteArray.size_append, four_size]
  have hi : Int.tmod (rd p 0) ((s ++ four (crc s)).size : Int) = (((rd p 0) % ((s ++ four (crc s)).size : Int)).toNat : Int) := by
    rw [tmod_nn p0.1, Int.toNat_of_nonneg (Int.emod_nonneg _ (by omega))]
  have hit : ((rd p 0) % ((s ++ four (crc s)).size : Int)).toNat < (s ++ four (crc s)).size := by
    have := Int.emod_lt_of_pos (rd p 0) (show 0 < ((s ++ four (crc s)).size : Int) by omega)
    omega
  generalize hgi : ((rd p 0) % ((s ++ four (crc s)).size : Int)).toNat = i at hi hit
  generalize hgt : s ++ four (crc s) = t at hi hit htz
  have hbv : ((t.data.toList.getD i 0).toNat : Int) = bt t (i : Int) := by
    rw [bt_list, List.getD_eq_getElem?_getD]
    cases t.data.toList[i]? <;> rfl
  have hb := bt_range t (i : Int)
  have hv1 : IntKind.u8.wrap (wrap64 (1 + (rd p 1).tmod 255)) = 1 + rd p 1 % 255 := by
    rw [tmod_nn p1.1, IntKind.wrap_u8, w64 (by omega) (by omega)]
    omega
  obtain ⟨xn, x0, x1⟩ := xor8_ne hb.1 hb.2 (show 1 ≤ 1 + rd p 1 % 255 by omega) (by omega)
  have hlen : ((bytesOf t).set i (Go.bits .xor .u8 (bt t (i : Int)) (1 + rd p 1 % 255))).length = t.size := by rw [List.length_set, bytesOf_length]
  have hall : ∀ x ∈ (bytesOf t).set i (Go.bits .xor .u8 (bt t (i : Int)) (1 + rd p 1 % 255)), 0 ≤ x ∧ x ≤ 255 := fun x hx => by
    rcases List.mem_or_eq_of_mem_set hx with hx | rfl
    · obtain ⟨j, hj, rfl⟩ := List.mem_iff_getElem.1 hx
      have q := bytesOf_getD t j
      rw [List.getD_eq_getElem?_getD, List.getElem?_eq_getElem hj, Option.getD_some] at q
      rw [q]
      exact bt_range t _
    · exact ⟨x0, x1⟩
  have hj : ∀ j : Nat, j < t.size → bt (strOfNums ((bytesOf t).set i (Go.bits .xor .u8 (bt t (i : Int)) (1 + rd p 1 % 255)))) (j : Int) = if j = i then Go.bits .xor .u8 (bt t (i : Int)) (1 + rd p 1 % 255) else bt t (j : Int) := fun j hj => by
    rw [bt_str _ j (by rw [hlen]; exact hj) hall]
    have hj' : j < (bytesOf t).length := by rw [bytesOf_length]; exact hj
    by_cases e : j = i
    · subst e
      rw [if_pos rfl, List.getD_eq_getElem?_getD, List.getElem?_set_self hj']
      rfl
    · rw [if_neg e, List.getD_eq_getElem?_getD, List.getElem?_set_ne (fun h => e h.symm), ← List.getD_eq_getElem?_getD, bytesOf_getD]
  have hz' : (strOfNums ((bytesOf t).set i (Go.bits .xor .u8 (bt t (i : Int)) (1 + rd p 1 % 255)))).size = t.size := by rw [strOfNums_size, hlen]
  have hU : Ev (fun k => impl_Unsealed.f k (strOfNums ((bytesOf t).set i (Go.bits .xor .u8 (bt t (i : Int)) (1 + rd p 1 % 255))))) (⟨#[]⟩, false) := by
    refine unseal_turned s _ (by omega) i (by omega) (by omega) (fun j h1 h2 => ?_) ?_
    · rw [hj j (by omega), if_neg h1, hgt]
    · rw [hj i hit, if_pos rfl, hgt]
      exact xn
  have hse := sealed_is s (by omega)
  have hun := unseal_seal s (by omega)
  have hc := crc_ev s (by omega)
  have hd := summore_ev (⟨#[120]⟩ : ByteArray) (by decide) (crc s)
  have hx := crc_ev (s ++ (⟨#[120]⟩ : ByteArray)) (by rw [ByteArray.size_append]; have : (⟨#[120]⟩ : ByteArray).size = 1 := rfl; omega)
  rw [← crc_more] at hx
  rw [hgt] at hse hun
  obtain ⟨K1, h1⟩ := hs
  obtain ⟨K2, h2⟩ := hp
  obtain ⟨K3, h3⟩ := hse
  obtain ⟨K4, h4⟩ := hun
  obtain ⟨K5, h5⟩ := hU
  obtain ⟨K6, h6⟩ := hc
  obtain ⟨K7, h7⟩ := hd
  obtain ⟨K8, h8⟩ := hx
  refine ⟨K1 + K2 + K3 + K4 + K5 + K6 + K7 + K8, s, t, _, (⟨#[]⟩ : ByteArray), p, i, _, _, h1 _ (by omega), h2 _ (by omega), hp12, h3 _ (by omega), h4 _ (by omega), by omega, htz, hit, hi, rfl, ?_, h6 _ (by omega), h7 _ (by omega), h8 _ (by omega)⟩
  rw [hbv, hv1]
  exact h5 _ (by omega)
end Go.Proofs.Ytfkjjehkngmgaaa.Pure
