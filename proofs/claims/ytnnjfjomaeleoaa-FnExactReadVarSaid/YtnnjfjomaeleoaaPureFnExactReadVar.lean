/- FnExactReadVar: for every text and place the program's ReadVar answers what the reference's does; no condition. -/
import Derived.Test.YtnnjfjomaeleoaaPFnExactReadVarx2
import Derived.Test.YtnnjfjomaeleoaaAid
namespace Go.Proofs.Ytnnjfjomaeleoaa.Pure
open Go.RowKit Go.Proofs.Ytnnjfjomaeleoaa.PFnExactReadVar Go.Proofs.YtnnjfjomaeleoaaW.PrintWords Go.Proofs.YtnnjfjomaeleoaaW.PrintLast Go.Proofs.YtnnjfjomaeleoaaW.PrintMore Go.Proofs.Ytnnjfjomaeleoaa.Aid
set_option linter.unusedVariables false
set_option linter.unusedSimpArgs false

theorem in_eq (a b c : Int) : spec_l01In.f a b c = some (decide (b ≤ a ∧ a ≤ c)) := by
  unfold spec_l01In.f
  by_cases h : a ≥ b
  · rw [if_pos h]
    simp [show b ≤ a from h]
  · rw [if_neg h]
    simp [show ¬ b ≤ a from h]

theorem within_eq (a b c : Int) : impl_within.f a b c = some (decide (b ≤ a ∧ a ≤ c)) := by
  unfold impl_within.f
  by_cases h : a ≥ b
  · rw [if_pos h]
    simp [show b ≤ a from h]
  · rw [if_neg h]
    simp [show ¬ b ≤ a from h]

/-- The bytes of a number as VarText writes them. -/
def venc (n : Nat) : List Int := if n > 127 then (((n % 128 + 128 : Nat)) : Int) :: venc (n / 128) else [(n : Int)]
termination_by n
decreasing_by omega
theorem venc_length (n : Nat) : (venc n).length ≤ n + 1 := by
  induction n using Nat.strongRecOn with
  | _ n ih =>
    unfold venc
    by_cases h : n > 127
    · rw [if_pos h]
      have := ih (n / 128) (by omega)
      simp only [List.length_cons]
      omega
    · rw [if_neg h]
      simp
theorem venc_range (n : Nat) : ∀ x ∈ venc n, 0 ≤ x ∧ x ≤ 255 := by
  induction n using Nat.strongRecOn with
  | _ n ih =>
    intro x hx
    unfold venc at hx
    by_cases h : n > 127
    · rw [if_pos h] at hx
      rcases List.mem_cons.1 hx with rfl | hx
      · omega
      · exact ih (n / 128) (by omega) x hx
    · rw [if_neg h] at hx
      rw [List.mem_singleton.1 hx]
      omega

theorem l01var_loop (d : Nat) : ∀ (k n : Nat) (l : List Int), n < d → d ≤ k → l.length + n ≤ 1000000000 → spec_l01Var.l0 k (n : Int) l = some (strOfNums (l ++ venc n)) := by
  induction d with
  | zero => intro k n l hd; omega
  | succ d ih =>
    intro k n l hd hk hl
    obtain ⟨k, rfl⟩ : ∃ m, k = m + 1 := ⟨k - 1, by omega⟩
    simp only [spec_l01Var.l0]
    unfold venc
    by_cases hb : n > 127
    · have e1 : Int.tdiv (n : Int) 128 = ((n / 128 : Nat) : Int) := by rw [tdiv_nn (by omega)]; omega
      have e3 : (wrap64 (Int.tmod (n : Int) 128 + 128)) % 256 = ((n % 128 + 128 : Nat) : Int) := by
        rw [tmod_nn (by omega), w64 (by omega) (by omega)]
        omega
      rw [if_pos (show (n : Int) > 127 by omega), if_pos (by omega), e1, w64 (by omega) (by omega), e3, ih k (n / 128) _ (by omega) (by omega) (by simp; omega), if_pos hb]
      simp
    · rw [if_neg (show ¬ (n : Int) > 127 by omega), if_pos (by omega), if_neg hb, show (n : Int) % 256 = n by omega]
theorem l01var_ev (n : Nat) (h : n ≤ 1000000000) : Ev (fun k => spec_l01Var.f k (n : Int)) (strOfNums (venc n)) :=
  Ev.at_ (n + 1) (fun k hk => by
    unfold spec_l01Var.f
    rw [l01var_loop (n + 1) k n [] (by omega) hk (by simp; omega)]
    simp)

theorem size_extract (s : ByteArray) (i j : Nat) (hj : j ≤ s.size) : (s.extract i j).size = j - i := by
  rw [ByteArray.size_extract]
  omega
theorem split_at (s : ByteArray) (n : Nat) (h : n ≤ s.size) : s.extract 0 n ++ s.extract n s.size = s := by
  apply toList_inj
  rw [Go.Lib.toList_data, Go.Lib.toList_data, ByteArray.data_append, Array.toList_append, Go.Lib.extract_data, Go.Lib.extract_data]
  have hl : s.data.toList.length = s.size := by rw [Array.length_toList]; rfl
  rw [List.drop_zero, Nat.sub_zero, List.take_of_length_le (l := List.drop n s.data.toList) (by rw [List.length_drop, hl]; omega), List.take_append_drop]

/-- The number that bytes of this form hold. -/
def vval : List Int → Nat
  | [] => 0
  | b :: r => (b % 128).toNat + 128 * vval r
theorem vval_snoc (l : List Int) (c : Int) : vval (l ++ [c]) = vval l + (c % 128).toNat * 128 ^ l.length := by
  induction l with
  | nil => simp [vval]
  | cons b r ih =>
    simp only [List.cons_append, vval, ih, List.length_cons, Nat.pow_succ]
    rw [Nat.mul_add, Nat.add_assoc]
    congr 2
    rw [Nat.mul_comm 128, Nat.mul_assoc]
theorem venc_last (n : Nat) : ∃ l c, venc n = l ++ [c] ∧ c < 128 ∧ (l = [] ∨ c ≠ 0) := by
  induction n using Nat.strongRecOn with
  | _ n ih =>
    unfold venc
    by_cases h : n > 127
    · rw [if_pos h]
      obtain ⟨l, c, e, hc, hl⟩ := ih (n / 128) (by omega)
      refine ⟨_ :: l, c, by rw [e]; rfl, hc, .inr ?_⟩
      rcases hl with rfl | hl
      · intro h0
        subst h0
        have : venc (n / 128) = [0] := by rw [e]; rfl
        unfold venc at this
        by_cases h2 : n / 128 > 127
        · rw [if_pos h2] at this
          injection this with a b
          omega
        · rw [if_neg h2] at this
          injection this with a b
          omega
      · exact hl
    · rw [if_neg h]
      exact ⟨[], _, rfl, by omega, .inl rfl⟩
theorem vval_venc (l : List Int) (c : Int) (hl : ∀ x ∈ l, 128 ≤ x ∧ x ≤ 255) (h0 : 0 ≤ c) (h1 : c < 128) (h : l = [] ∨ c ≠ 0) : venc (vval (l ++ [c])) = l ++ [c] := by
  induction l with
  | nil =>
    simp only [List.nil_append, vval]
    unfold venc
    rw [if_neg (by omega), show c % 128 = c by omega]
    simp
    omega
  | cons b r ih =>
    have hb := hl b List.mem_cons_self
    have hpos : 1 ≤ vval (r ++ [c]) := by
      rw [vval_snoc]
      have hc : 1 ≤ (c % 128).toNat := by
        rcases h with h | h
        · cases h
        · omega
      have hp : 0 < 128 ^ r.length := Nat.pow_pos (by decide)
      have := Nat.mul_le_mul hc hp
      omega
    have ihr := ih (fun x hx => hl x (List.mem_cons_of_mem _ hx)) (.inr (by rcases h with h | h; cases h; exact h))
    simp only [List.cons_append, vval]
    unfold venc
    rw [if_pos (by omega), show ((b % 128).toNat + 128 * vval (r ++ [c])) / 128 = vval (r ++ [c]) by omega, ihr, show ((b % 128).toNat + 128 * vval (r ++ [c])) % 128 = (b % 128).toNat by omega]
    congr 1
    omega
theorem venc_iff (l : List Int) (c : Int) (hl : ∀ x ∈ l, 128 ≤ x ∧ x ≤ 255) (h0 : 0 ≤ c) (h1 : c < 128) : venc (vval (l ++ [c])) = l ++ [c] ↔ (l = [] ∨ c ≠ 0) := by
  constructor
  · intro h
    obtain ⟨l', c', e, _, hc⟩ := venc_last (vval (l ++ [c]))
    rw [e] at h
    obtain ⟨rfl, h2⟩ := List.append_inj' h rfl
    injection h2 with h2
    rw [← h2]
    exact hc
  · exact vval_venc l c hl h0 h1
theorem vval_lt (l : List Int) : vval l < 128 ^ l.length := by
  induction l with
  | nil => simp [vval]
  | cons b r ih =>
    simp only [vval, List.length_cons, Nat.pow_succ]
    omega
/-- m bytes from a on. -/
def bs (s : ByteArray) (a : Nat) (m : Nat) : List Int := (List.range m).map fun t => bt s ((a + t : Nat) : Int)
theorem bs_length (s : ByteArray) (a m : Nat) : (bs s a m).length = m := by simp [bs]
theorem bs_snoc (s : ByteArray) (a m : Nat) : bs s a (m + 1) = bs s a m ++ [bt s ((a + m : Nat) : Int)] := by
  simp [bs, List.range_succ]
theorem bt_nat (s : ByteArray) (i : Nat) (h : i < s.size) : s.data.toList[i]? = some (UInt8.ofNat (bt s ((i : Nat) : Int)).toNat) := by
  have hl : i < s.data.toList.length := by rw [Array.length_toList]; exact h
  rw [List.getElem?_eq_getElem hl]
  congr 1
  unfold bt
  rw [dif_pos (by simpa using h)]
  simp only [Int.toNat_natCast, Array.getElem_toList]
  exact (UInt8.ofNat_toNat (x := s.data[i])).symm
theorem extract_bs (s : ByteArray) (a m : Nat) (h : a + m ≤ s.size) : (s.extract a (a + m)).data.toList = (bs s a m).map fun n => UInt8.ofNat n.toNat := by
  induction m with
  | zero => rw [Go.Lib.extract_data]; simp [bs]
  | succ m ih =>
    have ih := ih (by omega)
    rw [Go.Lib.extract_data] at ih ⊢
    rw [show a + m - a = m by omega] at ih
    rw [show a + (m + 1) - a = m + 1 by omega, List.take_add_one, ih, bs_snoc, List.map_append, List.getElem?_drop, bt_nat s (a + m) (by omega)]
    rfl
theorem strOfNums_inj (l l' : List Int) (h : ∀ x ∈ l, 0 ≤ x ∧ x ≤ 255) (h' : ∀ x ∈ l', 0 ≤ x ∧ x ≤ 255) (e : (l.map fun n => UInt8.ofNat n.toNat) = (l'.map fun n => UInt8.ofNat n.toNat)) : l = l' := by
  induction l generalizing l' with
  | nil =>
    cases l' with
    | nil => rfl
    | cons _ _ => simp at e
  | cons x r ih =>
    cases l' with
    | nil => simp at e
    | cons y r' =>
      simp only [List.map_cons, List.cons.injEq] at e
      have hx := h x List.mem_cons_self
      have hy := h' y List.mem_cons_self
      have e1 := congrArg UInt8.toNat e.1
      rw [UInt8.toNat_ofNat', UInt8.toNat_ofNat', Nat.mod_eq_of_lt (by omega), Nat.mod_eq_of_lt (by omega)] at e1
      have exy : x = y := by omega
      rw [exy, ih r' (fun z hz => h z (List.mem_cons_of_mem _ hz)) (fun z hz => h' z (List.mem_cons_of_mem _ hz)) e.2]
theorem bs_range (s : ByteArray) (a m : Nat) : ∀ x ∈ bs s a m, 0 ≤ x ∧ x ≤ 255 := by
  intro x hx
  obtain ⟨t, _, rfl⟩ := List.mem_map.1 hx
  exact bt_range s _
theorem venc_is (s : ByteArray) (a m n : Nat) (h : a + m ≤ s.size) : (strOfNums (venc n)).toList = (s.extract a (a + m)).toList ↔ venc n = bs s a m := by
  rw [Go.Lib.toList_data, Go.Lib.toList_data, extract_bs s a m h, strOfNums_data]
  constructor
  · exact strOfNums_inj _ _ (venc_range n) (bs_range s a m)
  · intro e
    rw [e]
theorem pow_le4 (j : Nat) (h : j ≤ 4) : (128 : Nat) ^ j ≤ 268435456 ∧ 1 ≤ (128 : Nat) ^ j := by
  obtain rfl | rfl | rfl | rfl | rfl : j = 0 ∨ j = 1 ∨ j = 2 ∨ j = 3 ∨ j = 4 := by omega
  all_goals decide
theorem mul_bound {x p : Nat} (hx : x ≤ 127) (hp : p ≤ 268435456) : x * p ≤ 34091302912 := by
  have := Nat.mul_le_mul hx hp
  omega
theorem shl_eq (x : Int) (j : Nat) (h0 : 0 ≤ x) (h1 : x ≤ 127) (hj : j ≤ 4) : shl .i64 x (7 * (j : Int)) = ((x.toNat * 128 ^ j : Nat) : Int) := by
  have hp := pow_le4 j hj
  have hb := mul_bound (x := x.toNat) (p := 128 ^ j) (by omega) hp.1
  have e : min (7 * (j : Int)).toNat IntKind.i64.bits = 7 * j := by
    have : IntKind.i64.bits = 64 := rfl
    omega
  unfold shl
  rw [e, Nat.mul_comm 7 j, show (2 : Int) ^ (j * 7) = ((128 ^ j : Nat) : Int) by
    rw [Nat.mul_comm, Int.pow_mul]; norm_cast]
  have ex : x * ((128 ^ j : Nat) : Int) = ((x.toNat * 128 ^ j : Nat) : Int) := by
    rw [Int.natCast_mul, Int.toNat_of_nonneg h0]
  rw [ex]
  exact (IntWalk.i64_in _ (by omega))
theorem spec_n (v m : Nat) (c p : Int) (hc0 : 0 ≤ c) (hc1 : c ≤ 255) (hm : c % 128 * p = (m : Int)) (hb : m ≤ 34091302912) (hv : v ≤ 268435456) : wrap64 ((v : Int) + wrap64 (Int.tmod (wrap64 c) 128 * p)) = ((v + m : Nat) : Int) := by
  rw [w64 (x := c) (by omega) (by omega), tmod_nn hc0, hm, w64 (x := (m : Int)) (by omega) (by omega), w64 (by omega) (by omega)]
  omega
theorem impl_n (v m : Nat) (c q : Int) (hc0 : 0 ≤ c) (hc1 : c ≤ 255) (hm : shl .i64 (c % 128) q = (m : Int)) (hb : m ≤ 34091302912) (hv : v ≤ 268435456) : wrap64 ((v : Int) + shl .i64 (Int.tmod (wrap64 c) 128) q) = ((v + m : Nat) : Int) := by
  rw [w64 (x := c) (by omega) (by omega), tmod_nn hc0, hm, w64 (by omega) (by omega)]
  omega
section
variable {s : ByteArray} {a j v v' k : Nat} {c p : Int}
theorem spec_into (hs : s.size ≤ 140737488351232) (hj : j ≤ 5) (hin : a + j < s.size) : spec_ReadVar.l0 (k + 1) s (a : Int) (v : Int) p ((a + j : Nat) : Int) = spec_ReadVar.j1 k s (a : Int) (v : Int) p ((a + j : Nat) : Int) (decide (j < 5)) := by
  simp only [spec_ReadVar.l0]
  rw [if_pos (by omega), w64 (x := (a : Int) + 5) (by omega) (by omega)]
  congr 1
  rw [decide_eq_decide]
  omega
theorem spec_out (hs : s.size ≤ 140737488351232) (hin : ¬ a + j < s.size) : spec_ReadVar.l0 (k + 1) s (a : Int) (v : Int) p ((a + j : Nat) : Int) = spec_ReadVar.j1 k s (a : Int) (v : Int) p ((a + j : Nat) : Int) false := by
  simp only [spec_ReadVar.l0]
  rw [if_neg (by omega)]
theorem spec_fail {x1 x7 x8 x9 : Int} : spec_ReadVar.j1 (k + 1) s x1 x7 x8 x9 false = some (0, 0, false) := by
  simp only [spec_ReadVar.j1]
  rfl
theorem impl_fail {x1 x7 x8 : Int} : impl_ReadVar.j1 (k + 1) s x1 x7 x8 false = some (0, 0, false) := by
  simp only [impl_ReadVar.j1]
  rfl
theorem impl_into (hs : s.size ≤ 140737488351232) (ha : a ≤ s.size) (hj : j < 5) : impl_ReadVar.l0 (k + 1) s (a : Int) (v : Int) (j : Int) = impl_ReadVar.j1 k s (a : Int) (v : Int) (j : Int) (decide (a + j < s.size)) := by
  simp only [impl_ReadVar.l0]
  rw [if_pos (by omega), w64 (x := (a : Int) + (j : Int)) (by omega) (by omega)]
  congr 1
  rw [decide_eq_decide]
  omega
theorem impl_out : impl_ReadVar.l0 (k + 1) s (a : Int) (v : Int) ((5 : Nat) : Int) = impl_ReadVar.j1 k s (a : Int) (v : Int) ((5 : Nat) : Int) false := by
  simp only [impl_ReadVar.l0]
  rw [if_neg (by omega)]
theorem spec_go (hs : s.size ≤ 140737488351232) (hin : a + j < s.size) (hcc : bt s ((a + j : Nat) : Int) = c) (hn : wrap64 ((v : Int) + wrap64 (Int.tmod (wrap64 c) 128 * p)) = (v' : Int)) (hbig : ¬ c < 128) : spec_ReadVar.j1 (k + 1) s (a : Int) (v : Int) p ((a + j : Nat) : Int) true = spec_ReadVar.l0 k s (a : Int) (v' : Int) (wrap64 (p * 128)) ((a + (j + 1) : Nat) : Int) := by
  have hn1 : wrap64 (((a + j : Nat) : Int) + 1) = ((a + (j + 1) : Nat) : Int) := by rw [w64 (by omega) (by omega)]; omega
  simp only [spec_ReadVar.j1, hcc, hn, hn1]
  rw [if_pos trivial, if_pos (by omega), if_pos (by omega), if_neg hbig]
theorem spec_max (hin : a + j < s.size) (hcc : bt s ((a + j : Nat) : Int) = c) (hn : wrap64 ((v : Int) + wrap64 (Int.tmod (wrap64 c) 128 * p)) = (v' : Int)) (hbig : c < 128) (hmx : v' > 1000000000) : spec_ReadVar.j1 (k + 1) s (a : Int) (v : Int) p ((a + j : Nat) : Int) true = some (0, 0, false) := by
  simp only [spec_ReadVar.j1, hcc, hn]
  rw [if_pos trivial, if_pos (by omega), if_pos (by omega), if_pos hbig, if_pos (by omega)]
theorem spec_end (hs : s.size ≤ 140737488351232) (hin : a + j < s.size) (hcc : bt s ((a + j : Nat) : Int) = c) (hn : wrap64 ((v : Int) + wrap64 (Int.tmod (wrap64 c) 128 * p)) = (v' : Int)) (hbig : c < 128) (hmx : ¬ v' > 1000000000) : spec_ReadVar.j1 (k + 1) s (a : Int) (v : Int) p ((a + j : Nat) : Int) true = (spec_l01Var.f k (v' : Int)).bind fun t => if t.toList = (s.extract a (a + (j + 1))).toList then some ((v' : Int), ((a + j + 1 : Nat) : Int), true) else some ((0 : Int), (0 : Int), false) := by
  have hn1 : wrap64 (((a + j : Nat) : Int) + 1) = ((a + j + 1 : Nat) : Int) := by rw [w64 (by omega) (by omega)]; omega
  simp only [spec_ReadVar.j1, hcc, hn, hn1]
  rw [if_pos trivial, if_pos (by omega), if_pos (by omega), if_pos hbig, if_neg (by omega)]
  rw [show ((a : Int)).toNat = a from Int.toNat_natCast a, show (((a + j + 1 : Nat) : Int)).toNat = a + (j + 1) from Int.toNat_natCast _]
  congr 1
  funext t
  rw [if_pos (by omega), if_pos (by omega), if_pos (by omega)]
theorem impl_go (hs : s.size ≤ 140737488351232) (hin : a + j < s.size) (hj : j ≤ 4) (hcc : bt s ((a + j : Nat) : Int) = c) (hc : 0 ≤ c ∧ c ≤ 255) (hn : wrap64 ((v : Int) + shl .i64 (Int.tmod (wrap64 c) 128) (7 * (j : Int))) = (v' : Int)) (hbig : ¬ c < 128) : impl_ReadVar.j1 (k + 1) s (a : Int) (v : Int) (j : Int) true = impl_ReadVar.l0 k s (a : Int) (v' : Int) ((j + 1 : Nat) : Int) := by
  have haj : wrap64 ((a : Int) + (j : Int)) = ((a + j : Nat) : Int) := by rw [w64 (by omega) (by omega)]; omega
  have h7 : wrap64 (7 * (j : Int)) = 7 * (j : Int) := w64 (by omega) (by omega)
  have hj1 : wrap64 ((j : Int) + 1) = ((j + 1 : Nat) : Int) := by rw [w64 (by omega) (by omega)]; omega
  have hw : wrap64 c = c := w64 (by omega) (by omega)
  simp only [impl_ReadVar.j1, haj, h7, hcc, hn, hj1, hw]
  simp only [hw] at hn
  rw [if_pos trivial, if_pos (by omega), if_pos (by omega), if_pos (by omega), if_pos (show c > 127 by omega), hn]
theorem impl_end (hs : s.size ≤ 140737488351232) (hin : a + j < s.size) (hj : j ≤ 4) (hcc : bt s ((a + j : Nat) : Int) = c) (hc : 0 ≤ c ∧ c ≤ 255) (hn : wrap64 ((v : Int) + shl .i64 (Int.tmod (wrap64 c) 128) (7 * (j : Int))) = (v' : Int)) (hbig : c < 128) : impl_ReadVar.j1 (k + 1) s (a : Int) (v : Int) (j : Int) true = if (0 < j ∧ c = 0) ∨ v' > 1000000000 then some (0, 0, false) else some ((v' : Int), ((a + j + 1 : Nat) : Int), true) := by
  have haj : wrap64 ((a : Int) + (j : Int)) = ((a + j : Nat) : Int) := by rw [w64 (by omega) (by omega)]; omega
  have h7 : wrap64 (7 * (j : Int)) = 7 * (j : Int) := w64 (by omega) (by omega)
  have hn1 : wrap64 (((a + j : Nat) : Int) + 1) = ((a + j + 1 : Nat) : Int) := by rw [w64 (by omega) (by omega)]; omega
  have hw : wrap64 c = c := w64 (by omega) (by omega)
  simp only [impl_ReadVar.j1, haj, h7, hcc, hn1, hw]
  simp only [hw] at hn
  rw [if_pos trivial, if_pos (by omega), if_pos (by omega), if_pos (by omega), if_neg (show ¬ c > 127 by omega), hn]
  by_cases h1 : (v' : Int) > 1000000000
  · rw [if_pos (show (0 < j ∧ c = 0) ∨ v' > 1000000000 by omega), if_pos h1]
    split
    · split <;> rfl
    · rfl
  · rw [if_neg h1]
    by_cases h2 : (j : Int) > 0
    · rw [if_pos h2]
      by_cases h3 : c = 0
      · rw [if_pos h3, if_pos (show (0 < j ∧ c = 0) ∨ v' > 1000000000 by omega)]
      · rw [if_neg h3, if_neg (show ¬ ((0 < j ∧ c = 0) ∨ v' > 1000000000) by omega)]
    · rw [if_neg h2, if_neg (show ¬ ((0 < j ∧ c = 0) ∨ v' > 1000000000) by omega)]
end
/-- What both answer: a number and a place that lie within their limits, or nothing. -/
def RvOk (s : ByteArray) (r : Int × Int × Bool) : Prop := r.2.2 = true → 0 ≤ r.1 ∧ r.1 ≤ 1000000000 ∧ 0 ≤ r.2.1 ∧ r.2.1 ≤ s.size
theorem rv_no (s : ByteArray) : RvOk s (0, 0, false) := fun h => by cases h
theorem readvar_loop (s : ByteArray) (hs : s.size ≤ 140737488351232) (a : Nat) (ha : a ≤ s.size) (d : Nat) : ∀ j : Nat, j ≤ 5 → 5 - j = d → a + j ≤ s.size → (∀ x ∈ bs s a j, 128 ≤ x ∧ x ≤ 255) →
    ∃ r : Int × Int × Bool, Ev (fun k => spec_ReadVar.l0 k s (a : Int) (vval (bs s a j) : Int) ((128 ^ j : Nat) : Int) ((a + j : Nat) : Int)) r ∧ Ev (fun k => impl_ReadVar.l0 k s (a : Int) (vval (bs s a j) : Int) (j : Int)) r ∧ RvOk s r := by
  induction d with
  | zero =>
    intro j h5 hd hsz hb
    obtain rfl : j = 5 := by omega
    refine ⟨(0, 0, false), ?_, ?_, rv_no s⟩
    · refine Ev.step (f := fun k => spec_ReadVar.j1 k s (a : Int) (vval (bs s a 5) : Int) ((128 ^ 5 : Nat) : Int) ((a + 5 : Nat) : Int) false) (fun k => ?_) (Ev.last fun k => spec_fail)
      by_cases hin : a + 5 < s.size
      · exact spec_into hs (by omega) hin
      · exact spec_out hs hin
    · exact Ev.step (f := fun k => impl_ReadVar.j1 k s (a : Int) (vval (bs s a 5) : Int) ((5 : Nat) : Int) false) (fun k => impl_out) (Ev.last fun k => impl_fail)
  | succ d ih =>
    intro j h5 hd hsz hb
    have hj4 : j ≤ 4 := by omega
    by_cases hin : a + j < s.size
    · have hp := pow_le4 j hj4
      have hv := vval_lt (bs s a j)
      rw [bs_length] at hv
      obtain ⟨c, hcc⟩ : ∃ c, bt s ((a + j : Nat) : Int) = c := ⟨_, rfl⟩
      have hc := bt_range s ((a + j : Nat) : Int)
      rw [hcc] at hc
      have hmb := mul_bound (x := (c % 128).toNat) (p := 128 ^ j) (by omega) hp.1
      have hvb : vval (bs s a j) ≤ 268435456 := by omega
      have hn' : vval (bs s a (j + 1)) = vval (bs s a j) + (c % 128).toNat * 128 ^ j := by rw [bs_snoc, vval_snoc, bs_length, hcc]
      have hm1 : c % 128 * ((128 ^ j : Nat) : Int) = (((c % 128).toNat * 128 ^ j : Nat) : Int) := by
        rw [Int.natCast_mul, Int.toNat_of_nonneg (by omega)]
      have hspec := spec_n (vval (bs s a j)) _ c _ hc.1 hc.2 hm1 hmb hvb
      have himpl := impl_n (vval (bs s a j)) _ c _ hc.1 hc.2 (shl_eq (c % 128) j (by omega) (by omega) hj4) hmb hvb
      rw [← hn'] at hspec himpl
      have hpb : wrap64 (((128 ^ j : Nat) : Int) * 128) = ((128 ^ (j + 1) : Nat) : Int) := by
        rw [Nat.pow_succ, w64 (by omega) (by omega)]
        omega
      have spec0 : ∀ r, Ev (fun k => spec_ReadVar.j1 k s (a : Int) (vval (bs s a j) : Int) ((128 ^ j : Nat) : Int) ((a + j : Nat) : Int) true) r → Ev (fun k => spec_ReadVar.l0 k s (a : Int) (vval (bs s a j) : Int) ((128 ^ j : Nat) : Int) ((a + j : Nat) : Int)) r := fun r h =>
        Ev.step (fun k => by rw [spec_into hs h5 hin, decide_eq_true (by omega)]) h
      have impl0 : ∀ r, Ev (fun k => impl_ReadVar.j1 k s (a : Int) (vval (bs s a j) : Int) (j : Int) true) r → Ev (fun k => impl_ReadVar.l0 k s (a : Int) (vval (bs s a j) : Int) (j : Int)) r := fun r h =>
        Ev.step (fun k => by rw [impl_into hs ha (by omega), decide_eq_true hin]) h
      clear hmb hm1 hp hv hvb
      by_cases hbig : c < 128
      · by_cases hmx : vval (bs s a (j + 1)) > 1000000000
        · exact ⟨(0, 0, false), spec0 _ (Ev.last fun k => spec_max hin hcc hspec hbig hmx), impl0 _ (Ev.last fun k => by rw [impl_end hs hin hj4 hcc hc himpl hbig, if_pos (.inr hmx)]), rv_no s⟩
        · have hiff := venc_is s a (j + 1) (vval (bs s a (j + 1))) (by omega)
          have hiff2 : venc (vval (bs s a (j + 1))) = bs s a (j + 1) ↔ (bs s a j = [] ∨ c ≠ 0) := by
            rw [bs_snoc, hcc]
            exact venc_iff _ _ hb hc.1 hbig
          have hnil : bs s a j = [] ↔ ¬ 0 < j := by
            have hl := bs_length s a j
            constructor
            · intro e
              rw [e] at hl
              simp at hl
              omega
            · intro h
              obtain rfl : j = 0 := by omega
              rfl
          have hev := l01var_ev (vval (bs s a (j + 1))) (by omega)
          by_cases hok : bs s a j = [] ∨ c ≠ 0
          · refine ⟨((vval (bs s a (j + 1)) : Int), ((a + j + 1 : Nat) : Int), true), spec0 _ (Ev.step (fun k => spec_end hs hin hcc hspec hbig hmx) (Ev.bind hev (Ev.now' fun _ => by rw [if_pos (hiff.2 (hiff2.2 hok))]))), impl0 _ (Ev.last fun k => ?_), fun _ => ⟨by simp only; omega, by simp only; omega, by simp only; omega, by simp only; omega⟩⟩
            rw [impl_end hs hin hj4 hcc hc himpl hbig, if_neg]
            rintro (⟨h1, h2⟩ | h)
            · rcases hok with h | h
              · exact hnil.1 h h1
              · exact h h2
            · exact hmx h
          · refine ⟨(0, 0, false), spec0 _ (Ev.step (fun k => spec_end hs hin hcc hspec hbig hmx) (Ev.bind hev (Ev.now' fun _ => by rw [if_neg (fun h => hok (hiff2.1 (hiff.1 h)))]))), impl0 _ (Ev.last fun k => ?_), rv_no s⟩
            rw [impl_end hs hin hj4 hcc hc himpl hbig, if_pos]
            exact .inl ⟨Decidable.byContradiction fun h => hok (.inl (hnil.2 h)), Decidable.byContradiction fun h => hok (.inr h)⟩
      · obtain ⟨r, hr1, hr2, hr3⟩ := ih (j + 1) (by omega) (by omega) (by omega) (by
          rw [bs_snoc, hcc]
          intro x hx
          rcases List.mem_append.1 hx with hx | hx
          · exact hb x hx
          · rw [List.mem_singleton.1 hx]
            omega)
        exact ⟨r, spec0 _ (Ev.step (fun k => by rw [spec_go hs hin hcc hspec hbig, hpb]) hr1), impl0 _ (Ev.step (fun k => impl_go hs hin hj4 hcc hc himpl hbig) hr2), hr3⟩
    · refine ⟨(0, 0, false), ?_, ?_, rv_no s⟩
      · exact Ev.step (f := fun k => spec_ReadVar.j1 k s (a : Int) (vval (bs s a j) : Int) ((128 ^ j : Nat) : Int) ((a + j : Nat) : Int) false) (fun k => spec_out hs hin) (Ev.last fun k => spec_fail)
      · exact Ev.step (f := fun k => impl_ReadVar.j1 k s (a : Int) (vval (bs s a j) : Int) (j : Int) false) (fun k => by rw [impl_into hs ha (by omega), decide_eq_false hin]) (Ev.last fun k => impl_fail)
theorem readvar_ev (s : ByteArray) (hs : s.size ≤ 140737488351232) (a : Int) : ∃ r : Int × Int × Bool, Ev (fun k => spec_ReadVar.f k s a) r ∧ Ev (fun k => impl_ReadVar.f k s a) r ∧ RvOk s r := by
  by_cases h : 0 ≤ a ∧ a ≤ s.size
  · obtain ⟨n, rfl⟩ := Int.eq_ofNat_of_zero_le h.1
    obtain ⟨r, h1, h2, h3⟩ := readvar_loop s hs n (by omega) 5 0 (by omega) (by omega) (by omega) (by simp [bs])
    refine ⟨r, ?_, ?_, h3⟩
    · unfold spec_ReadVar.f
      simp only [in_eq, decide_eq_true h, Option.bind_some, if_true]
      exact h1
    · unfold impl_ReadVar.f
      simp only [within_eq, decide_eq_true h, Option.bind_some, if_true]
      exact h2
  · refine ⟨(0, 0, false), Ev.now' fun k => ?_, Ev.now' fun k => ?_, rv_no s⟩
    · unfold spec_ReadVar.f
      rw [in_eq, decide_eq_false h]
      rfl
    · unfold impl_ReadVar.f
      rw [within_eq, decide_eq_false h]
      rfl

theorem FnExactReadVar : laws_FnExactReadVar.Pure := by
  intro s a hs _
  obtain ⟨r, h1, h2, _⟩ := readvar_ev s hs a
  obtain ⟨k, hk1, hk2⟩ : ∃ k, spec_ReadVar.f k s a = some r ∧ impl_ReadVar.f k s a = some r := by
    obtain ⟨K1, h1⟩ := h1
    obtain ⟨K2, h2⟩ := h2
    exact ⟨max K1 K2, h1 _ (by omega), h2 _ (by omega)⟩
  refine ⟨k, ?_⟩
  unfold laws_FnExactReadVar.f
  rw [hk1, hk2]
  simp
end Go.Proofs.Ytnnjfjomaeleoaa.Pure
