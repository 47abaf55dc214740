/- FnNumbers: for every draw, a number comes back from its bytes and from its decimal text, and a text from its short text and from its figures; no condition. -/
import Derived.Test.YtgidhjomadajlaaDoorPFnNumbersx4
import Derived.Test.YtgidhjomadajlaaDoorAid
namespace Go.Proofs.YtgidhjomadajlaaDoor.Pure
open Go.RowKit Go.Proofs.YtgidhjomadajlaaDoor.PFnNumbers Go.Proofs.YtgidhjomadajlaaDoorW.PrintWords Go.Proofs.YtgidhjomadajlaaDoorW.PrintLast Go.Proofs.YtgidhjomadajlaaDoorW.PrintMore Go.Proofs.YtgidhjomadajlaaDoor.Aid
set_option linter.unusedVariables false
set_option linter.unusedSimpArgs false

theorem within_eq (a b c : Int) : impl_within.f a b c = some (decide (b ≤ a ∧ a ≤ c)) := by
  unfold impl_within.f
  by_cases h : a ≥ b
  · rw [if_pos h]
    simp [show b ≤ a from h]
  · rw [if_neg h]
    simp [show ¬ b ≤ a from h]

theorem pow_le4 (j : Nat) (h : j ≤ 4) : (128 : Nat) ^ j ≤ 268435456 ∧ 1 ≤ (128 : Nat) ^ j := by
  obtain rfl | rfl | rfl | rfl | rfl : j = 0 ∨ j = 1 ∨ j = 2 ∨ j = 3 ∨ j = 4 := by omega
  all_goals decide
theorem mul_bound {x p : Nat} (hx : x ≤ 127) (hp : p ≤ 268435456) : x * p ≤ 34091302912 := by
  have := Nat.mul_le_mul hx hp
  omega
theorem shl_eq (x : Int) (j : Nat) (h0 : 0 ≤ x) (h1 : x ≤ 127) (hj : j ≤ 4) : shl .i64 x (7 * (j : Int)) = ((x.toNat * 128 ^ j : Nat) : Int) := by
  have hp := pow_le4 j hj
  have hb := mul_bound (x := x.toNat) (p := 128 ^ j) (by omega) hp.1
  have e : min (7 * (j : Int)).toNat IntKind.i64.bits = 7 * j := by
    have : IntKind.i64.bits = 64 := rfl
    omega
  unfold shl
  rw [e, Nat.mul_comm 7 j, show (2 : Int) ^ (j * 7) = ((128 ^ j : Nat) : Int) by
    rw [Nat.mul_comm, Int.pow_mul]; norm_cast]
  have ex : x * ((128 ^ j : Nat) : Int) = ((x.toNat * 128 ^ j : Nat) : Int) := by
    rw [Int.natCast_mul, Int.toNat_of_nonneg h0]
  rw [ex]
  exact (IntWalk.i64_in _ (by omega))
theorem impl_n (v m : Nat) (c q : Int) (hc0 : 0 ≤ c) (hc1 : c ≤ 255) (hm : shl .i64 (c % 128) q = (m : Int)) (hb : m ≤ 34091302912) (hv : v ≤ 268435456) : wrap64 ((v : Int) + shl .i64 (Int.tmod (wrap64 c) 128) q) = ((v + m : Nat) : Int) := by
  rw [w64 (x := c) (by omega) (by omega), tmod_nn hc0, hm, w64 (by omega) (by omega)]
  omega
section
variable {s : ByteArray} {a j v v' k : Nat} {c p : Int}
theorem impl_fail {x1 x7 x8 : Int} : impl_ReadVar.j1 (k + 1) s x1 x7 x8 false = some (0, 0, false) := by
  simp only [impl_ReadVar.j1]
  rfl
theorem impl_into (hs : s.size ≤ 140737488351232) (ha : a ≤ s.size) (hj : j < 5) : impl_ReadVar.l0 (k + 1) s (a : Int) (v : Int) (j : Int) = impl_ReadVar.j1 k s (a : Int) (v : Int) (j : Int) (decide (a + j < s.size)) := by
  simp only [impl_ReadVar.l0]
  rw [if_pos (by omega), w64 (x := (a : Int) + (j : Int)) (by omega) (by omega)]
  congr 1
  rw [decide_eq_decide]
  omega
theorem impl_go (hs : s.size ≤ 140737488351232) (hin : a + j < s.size) (hj : j ≤ 4) (hcc : bt s ((a + j : Nat) : Int) = c) (hc : 0 ≤ c ∧ c ≤ 255) (hn : wrap64 ((v : Int) + shl .i64 (Int.tmod (wrap64 c) 128) (7 * (j : Int))) = (v' : Int)) (hbig : ¬ c < 128) : impl_ReadVar.j1 (k + 1) s (a : Int) (v : Int) (j : Int) true = impl_ReadVar.l0 k s (a : Int) (v' : Int) ((j + 1 : Nat) : Int) := by
  have haj : wrap64 ((a : Int) + (j : Int)) = ((a + j : Nat) : Int) := by rw [w64 (by omega) (by omega)]; omega
  have h7 : wrap64 (7 * (j : Int)) = 7 * (j : Int) := w64 (by omega) (by omega)
  have hj1 : wrap64 ((j : Int) + 1) = ((j + 1 : Nat) : Int) := by rw [w64 (by omega) (by omega)]; omega
  have hw : wrap64 c = c := w64 (by omega) (by omega)
  simp only [impl_ReadVar.j1, haj, h7, hcc, hn, hj1, hw]
  simp only [hw] at hn
  rw [if_pos trivial, if_pos (by omega), if_pos (by omega), if_pos (by omega), if_pos (show c > 127 by omega), hn]
theorem impl_end (hs : s.size ≤ 140737488351232) (hin : a + j < s.size) (hj : j ≤ 4) (hcc : bt s ((a + j : Nat) : Int) = c) (hc : 0 ≤ c ∧ c ≤ 255) (hn : wrap64 ((v : Int) + shl .i64 (Int.tmod (wrap64 c) 128) (7 * (j : Int))) = (v' : Int)) (hbig : c < 128) : impl_ReadVar.j1 (k + 1) s (a : Int) (v : Int) (j : Int) true = if (0 < j ∧ c = 0) ∨ v' > 1000000000 then some (0, 0, false) else some ((v' : Int), ((a + j + 1 : Nat) : Int), true) := by
  have haj : wrap64 ((a : Int) + (j : Int)) = ((a + j : Nat) : Int) := by rw [w64 (by omega) (by omega)]; omega
  have h7 : wrap64 (7 * (j : Int)) = 7 * (j : Int) := w64 (by omega) (by omega)
  have hn1 : wrap64 (((a + j : Nat) : Int) + 1) = ((a + j + 1 : Nat) : Int) := by rw [w64 (by omega) (by omega)]; omega
  have hw : wrap64 c = c := w64 (by omega) (by omega)
  simp only [impl_ReadVar.j1, haj, h7, hcc, hn1, hw]
  simp only [hw] at hn
  rw [if_pos trivial, if_pos (by omega), if_pos (by omega), if_pos (by omega), if_neg (show ¬ c > 127 by omega), hn]
  by_cases h1 : (v' : Int) > 1000000000
  · rw [if_pos (show (0 < j ∧ c = 0) ∨ v' > 1000000000 by omega), if_pos h1]
    split
    · split <;> rfl
    · rfl
  · rw [if_neg h1]
    by_cases h2 : (j : Int) > 0
    · rw [if_pos h2]
      by_cases h3 : c = 0
      · rw [if_pos h3, if_pos (show (0 < j ∧ c = 0) ∨ v' > 1000000000 by omega)]
      · rw [if_neg h3, if_neg (show ¬ ((0 < j ∧ c = 0) ∨ v' > 1000000000) by omega)]
    · rw [if_neg h2, if_neg (show ¬ ((0 < j ∧ c = 0) ∨ v' > 1000000000) by omega)]
end

/-- The bytes of a number as VarText writes them. -/
def venc (n : Nat) : List Int := if n > 127 then (((n % 128 + 128 : Nat)) : Int) :: venc (n / 128) else [(n : Int)]
termination_by n
decreasing_by omega
theorem venc_length (n : Nat) : (venc n).length ≤ n + 1 := by
  induction n using Nat.strongRecOn with
  | _ n ih =>
    unfold venc
    by_cases h : n > 127
    · rw [if_pos h]
      have := ih (n / 128) (by omega)
      simp only [List.length_cons]
      omega
    · rw [if_neg h]
      simp
theorem venc_range (n : Nat) : ∀ x ∈ venc n, 0 ≤ x ∧ x ≤ 255 := by
  induction n using Nat.strongRecOn with
  | _ n ih =>
    intro x hx
    unfold venc at hx
    by_cases h : n > 127
    · rw [if_pos h] at hx
      rcases List.mem_cons.1 hx with rfl | hx
      · omega
      · exact ih (n / 128) (by omega) x hx
    · rw [if_neg h] at hx
      rw [List.mem_singleton.1 hx]
      omega

theorem vartext_loop (d : Nat) : ∀ (k n : Nat) (l : List Int), n < d → d ≤ k → l.length + n ≤ 1000000000 → impl_VarText.l0 k (n : Int) l = some (strOfNums (l ++ venc n), true) := by
  induction d with
  | zero => intro k n l hd; omega
  | succ d ih =>
    intro k n l hd hk hl
    obtain ⟨k, rfl⟩ : ∃ m, k = m + 1 := ⟨k - 1, by omega⟩
    simp only [impl_VarText.l0]
    unfold venc
    by_cases hb : n > 127
    · have e1 : Int.tdiv (n : Int) 128 = ((n / 128 : Nat) : Int) := by rw [tdiv_nn (by omega)]; omega
      have e3 : (wrap64 (Int.tmod (n : Int) 128 + 128)) % 256 = ((n % 128 + 128 : Nat) : Int) := by
        rw [tmod_nn (by omega), w64 (by omega) (by omega)]
        omega
      rw [if_pos (show (n : Int) > 127 by omega), if_pos (by omega), e1, w64 (by omega) (by omega), e3, ih k (n / 128) _ (by omega) (by omega) (by simp; omega), if_pos hb]
      simp
    · rw [if_neg (show ¬ (n : Int) > 127 by omega), if_pos (by omega), if_neg hb, show (n : Int) % 256 = n by omega]
theorem vartext_ev (n : Nat) (h : n ≤ 1000000000) : Ev (fun k => impl_VarText.f k (n : Int)) (strOfNums (venc n), true) :=
  Ev.at_ (n + 1) (fun k hk => by
    unfold impl_VarText.f
    rw [within_eq, decide_eq_true (by omega)]
    simp only [Option.bind_some, if_true]
    rw [vartext_loop (n + 1) k n [] (by omega) hk (by simp; omega)]
    simp)
theorem shorttext_ev (s : ByteArray) (h : s.size ≤ 20000) : Ev (fun k => impl_ShortText.f k s) (strOfNums (venc s.size) ++ s, true) := by
  unfold impl_ShortText.f
  simp only [if_neg (show ¬ (s.size : Int) > 20000 by omega)]
  have hv := venc_length s.size
  refine Ev.bind (vartext_ev s.size (by omega)) (Ev.now' fun _ => ?_)
  simp only [strOfNums_size]
  rw [if_pos (by omega)]

theorem bt_str (xs : List Int) (i : Nat) (hi : i < xs.length) (h : ∀ x ∈ xs, 0 ≤ x ∧ x ≤ 255) : bt (strOfNums xs) (i : Int) = xs.getD i 0 := by
  unfold bt
  have hs := strOfNums_size xs
  rw [dif_pos (by rw [Int.toNat_natCast, hs]; exact hi)]
  have e : (strOfNums xs)[((i : Int)).toNat]'(by rw [Int.toNat_natCast, hs]; exact hi) = UInt8.ofNat (xs[i]).toNat := by
    show (strOfNums xs).data[((i : Int)).toNat]'_ = _
    have := strOfNums_data xs
    simp only [strOfNums, Int.toNat_natCast, List.getElem_toArray, List.getElem_map]
  have hx := h (xs[i]) (List.getElem_mem hi)
  rw [e, List.getD_eq_getElem?_getD, List.getElem?_eq_getElem hi, Option.getD_some, UInt8.toNat_ofNat']
  omega
theorem str_three (s : ByteArray) (h : s.size = 3) : strOfNums [bt s 0, bt s 1, bt s 2] = s := by
  apply toList_inj
  rw [Go.Lib.toList_data, Go.Lib.toList_data, strOfNums_data]
  have hl : s.data.toList.length = 3 := by rw [Array.length_toList]; exact h
  have hb : ∀ i : Nat, (hi : i < 3) → UInt8.ofNat (bt s (i : Int)).toNat = s.data.toList[i]'(by omega) := fun i hi => by
    unfold bt
    rw [dif_pos (by rw [Int.toNat_natCast]; omega)]
    simp only [Int.toNat_natCast]
    rw [UInt8.ofNat_toNat]
    rfl
  match hs : s.data.toList, hl with
  | [a, b, c], _ =>
    have h0 := hb 0 (by omega)
    have h1 := hb 1 (by omega)
    have h2 := hb 2 (by omega)
    simp only [hs] at h0 h1 h2
    simp only [List.map_cons, List.map_nil, List.cons.injEq, and_true]
    exact ⟨h0, h1, h2⟩

theorem bt_list (s : ByteArray) (i : Nat) : bt s (i : Int) = ((s.data.toList[i]?).map (fun c => (c.toNat : Int))).getD 0 := by
  unfold bt
  by_cases h : i < s.size
  · have hl : i < s.data.toList.length := by rw [Array.length_toList]; exact h
    rw [dif_pos (by rw [Int.toNat_natCast]; exact h), List.getElem?_eq_getElem hl]
    simp only [Int.toNat_natCast, Option.map_some, Option.getD_some]
    rfl
  · have hl : s.data.toList.length ≤ i := by rw [Array.length_toList]; exact Nat.le_of_not_lt h
    rw [dif_neg (by rw [Int.toNat_natCast]; exact h), List.getElem?_eq_none hl]
    rfl
theorem dlen (s : ByteArray) : s.data.toList.length = s.size := by rw [Array.length_toList]; rfl
theorem app_data (a b : ByteArray) : (a ++ b).data.toList = a.data.toList ++ b.data.toList := by rw [ByteArray.data_append, Array.toList_append]
theorem bt_right (a b : ByteArray) (i : Nat) : bt (a ++ b) ((a.size + i : Nat) : Int) = bt b (i : Int) := by
  rw [bt_list, bt_list, app_data, List.getElem?_append_right (by rw [dlen]; omega), dlen, Nat.add_sub_cancel_left]
theorem bt_left (a b : ByteArray) (i : Nat) (h : i < a.size) : bt (a ++ b) (i : Int) = bt a (i : Int) := by
  rw [bt_list, bt_list, app_data, List.getElem?_append_left (by rw [dlen]; exact h)]
theorem ext_mid (a b c : ByteArray) : (a ++ (b ++ c)).extract a.size (a.size + b.size) = b := by
  apply toList_inj
  rw [Go.Lib.toList_data, Go.Lib.toList_data, Go.Lib.extract_data, app_data, app_data, ← dlen a, List.drop_left, Nat.add_sub_cancel_left, ← dlen b, List.take_left]
theorem bt_one (c : Int) (h0 : 0 ≤ c) (h1 : c ≤ 255) : bt (strOfNums [c]) 0 = c := by
  have h := bt_str [c] 0 (by simp) (fun x hx => by rw [List.mem_singleton.1 hx]; exact ⟨h0, h1⟩)
  exact h

theorem venc_step (n : Nat) : venc n = if n > 127 then (((n % 128 + 128 : Nat)) : Int) :: venc (n / 128) else [(n : Int)] := by
  conv => lhs; unfold venc
/-- A number comes back from its bytes, wherever they stand. -/
theorem varback_loop (s : ByteArray) (hs : s.size ≤ 140737488351232) (a n : Nat) (hn : n ≤ 1000000000) (m : Nat) : ∀ (j v : Nat) (e : List Int), j ≤ 4 → e = venc m → a + j + e.length ≤ s.size → (∀ i : Nat, i < e.length → bt s ((a + j + i : Nat) : Int) = e.getD i 0) → v + 128 ^ j * m = n → (0 < j → 1 ≤ m) → v < 128 ^ j → Ev (fun k => impl_ReadVar.l0 k s (a : Int) (v : Int) (j : Int)) ((n : Int), ((a + j + e.length : Nat) : Int), true) := by
  induction m using Nat.strongRecOn with
  | _ m ih =>
    intro j v e hj he hlen hbt hv hm1 hvlt
    have hp := pow_le4 j hj
    rw [venc_step] at he
    by_cases hbig : m > 127
    · rw [if_pos hbig] at he
      subst he
      simp only [List.length_cons] at hlen hbt ⊢
      have hb0 : bt s ((a + j : Nat) : Int) = ((m % 128 + 128 : Nat) : Int) := hbt 0 (by omega)
      have hj3 : j ≤ 3 := by
        rcases Nat.lt_or_ge j 4 with h | h
        · omega
        · have e4 : j = 4 := by omega
          subst e4
          have : (128 : Nat) ^ 4 = 268435456 := by decide
          rw [this] at hv
          omega
      have hsh := shl_eq (((m % 128 : Nat)) : Int) j (by omega) (by omega) hj
      have hmod : (((m % 128 + 128 : Nat)) : Int) % 128 = ((m % 128 : Nat) : Int) := by omega
      have hvv : v + (m % 128) * 128 ^ j + 128 ^ (j + 1) * (m / 128) = n := by
        rw [Nat.pow_succ, Nat.mul_assoc, Nat.mul_comm (m % 128), Nat.add_assoc, ← Nat.mul_add, show m % 128 + 128 * (m / 128) = m by omega]
        exact hv
      have hvn : v ≤ 268435456 := by omega
      have hq := Nat.mul_le_mul_right (128 ^ j) (show m % 128 ≤ 127 by omega)
      have hlt : v + (m % 128) * 128 ^ j < 128 ^ (j + 1) := by
        rw [Nat.pow_succ]
        omega
      have f1 : 128 ≤ ((m % 128 + 128 : Nat) : Int) ∧ ((m % 128 + 128 : Nat) : Int) ≤ 255 := by omega
      have f2 : a + j < s.size := by omega
      have f3 : a ≤ s.size := by omega
      have f4 : j < 5 := by omega
      have f5 : ¬ ((m % 128 + 128 : Nat) : Int) < 128 := by omega
      have hn1 := impl_n v ((m % 128) * 128 ^ j) (((m % 128 + 128 : Nat)) : Int) (7 * (j : Int)) (by omega) (by omega) (by rw [hmod, hsh, Int.toNat_natCast]) (mul_bound (by omega) hp.1) hvn
      have hnext := ih (m / 128) (by omega) (j + 1) (v + (m % 128) * 128 ^ j) (venc (m / 128)) (by omega) rfl (by omega) (fun i hi => by
        have := hbt (i + 1) (by omega)
        rw [show a + j + (i + 1) = a + (j + 1) + i by omega] at this
        exact this) hvv (fun _ => by omega) hlt
      rw [show a + (j + 1) + (venc (m / 128)).length = a + j + ((venc (m / 128)).length + 1) by omega] at hnext
      refine Ev.step (fun k => impl_into hs f3 f4) ?_
      rw [decide_eq_true f2]
      exact Ev.step (fun k => impl_go hs f2 hj hb0 ⟨Int.le_trans (by decide) f1.1, f1.2⟩ hn1 f5) hnext
    · rw [if_neg hbig] at he
      subst he
      simp only [List.length_singleton] at hlen hbt ⊢
      have hb0 : bt s ((a + j : Nat) : Int) = (m : Int) := hbt 0 (by omega)
      have hsh := shl_eq (m : Int) j (by omega) (by omega) hj
      have hmod : (m : Int) % 128 = (m : Int) := by omega
      have hle : v ≤ 1000000000 := by omega
      have hvm : v + m * 128 ^ j = n := by rw [Nat.mul_comm m]; exact hv
      have f2 : a + j < s.size := by omega
      have f3 : a ≤ s.size := by omega
      have f4 : j < 5 := by omega
      have f5 : (m : Int) < 128 := by omega
      have f6 : 0 ≤ (m : Int) ∧ (m : Int) ≤ 255 := by omega
      have f7 : ¬ ((0 < j ∧ (m : Int) = 0) ∨ n > 1000000000) := by
        intro q
        rcases q with ⟨q1, q2⟩ | q
        · have := hm1 q1
          omega
        · omega
      have hn1 : wrap64 ((v : Int) + shl .i64 (Int.tmod (wrap64 (m : Int)) 128) (7 * (j : Int))) = (n : Int) := by
        have e : (v : Int) + ((m * 128 ^ j : Nat) : Int) = (n : Int) := by omega
        rw [w64 (x := (m : Int)) (by omega) (by omega), tmod_nn f6.1, hmod, hsh, Int.toNat_natCast, e, w64 (by omega) (by omega)]
      refine Ev.step (fun k => impl_into hs f3 f4) ?_
      rw [decide_eq_true f2]
      refine Ev.last (fun k => ?_)
      rw [impl_end hs f2 hj hb0 f6 hn1 f5, if_neg f7]
/-- A number's bytes, read where they stand. -/
theorem readvar_back (pre post s : ByteArray) (n : Nat) (hs : s.size ≤ 140737488351232) (hn : n ≤ 1000000000) (e : s = pre ++ (strOfNums (venc n) ++ post)) : Ev (fun k => impl_ReadVar.f k s (pre.size : Int)) ((n : Int), ((pre.size + (venc n).length : Nat) : Int), true) := by
  have hsz : s.size = pre.size + ((venc n).length + post.size) := by
    rw [e]
    simp only [ByteArray.size_append, strOfNums_size]
  have hb : ∀ i : Nat, i < (venc n).length → bt s ((pre.size + 0 + i : Nat) : Int) = (venc n).getD i 0 := fun i hi => by
    rw [e, Nat.add_zero, bt_right, bt_left _ _ i (by rw [strOfNums_size]; exact hi), bt_str _ i hi (venc_range n)]
  have hl := varback_loop s hs pre.size n hn n 0 0 (venc n) (by omega) rfl (by omega) hb (by simp) (fun h => by omega) (by simp)
  unfold impl_ReadVar.f
  simp only [within_eq, Option.bind_some, decide_eq_true (show (0 : Int) ≤ (pre.size : Int) ∧ (pre.size : Int) ≤ (s.size : Int) by omega), if_true]
  exact hl
theorem short_back0 (t s : ByteArray) (ht : t.size ≤ 20000) (e : s = strOfNums (venc t.size) ++ t) : Ev (fun k => impl_ReadShort.f k s 0) (t, (s.size : Int), true) := by
  have hv := venc_length t.size
  have hsz : s.size = (venc t.size).length + t.size := by rw [e, ByteArray.size_append, strOfNums_size]
  have h0 : (⟨#[]⟩ : ByteArray).size = 0 := rfl
  have hrv : Ev (fun k => impl_ReadVar.f k s 0) ((t.size : Int), (((venc t.size).length : Nat) : Int), true) := by
    have q := readvar_back ⟨#[]⟩ t s t.size (by omega) (by omega) (by
      rw [e]
      apply toList_inj
      rw [Go.Lib.toList_data, Go.Lib.toList_data, app_data (⟨#[]⟩ : ByteArray)]
      rfl)
    rw [h0, Nat.zero_add] at q
    exact q
  unfold impl_ReadShort.f
  refine Ev.bind hrv (Ev.now' fun _ => ?_)
  have hw : wrap64 ((s.size : Int) - (((venc t.size).length : Nat) : Int)) = (t.size : Int) := by rw [w64 (by omega) (by omega)]; omega
  have hw2 : wrap64 ((((venc t.size).length : Nat) : Int) + (t.size : Int)) = (s.size : Int) := by rw [w64 (by omega) (by omega)]; omega
  simp only [hw, hw2]
  rw [if_pos trivial, if_neg (by omega), if_neg (by omega), if_pos (by omega), if_pos (by omega), if_pos (by omega)]
  have he : s.extract (venc t.size).length s.size = t := by
    apply toList_inj
    rw [hsz, e, Go.Lib.toList_data, Go.Lib.toList_data, Go.Lib.extract_data, app_data, strOfNums_data, List.drop_left' (by simp), Nat.add_sub_cancel_left, ← dlen t, List.take_length]
  rw [Int.toNat_natCast, Int.toNat_natCast, he]

/-- A figure's value; -1 of another byte. -/
def hv (c : Int) : Int := if 48 ≤ c ∧ c ≤ 57 then c - 48 else if 97 ≤ c ∧ c ≤ 102 then c - 87 else -1
theorem hv_range (c : Int) : -1 ≤ hv c ∧ hv c ≤ 15 := by
  unfold hv
  split
  · omega
  · split <;> omega
theorem index_all : ∀ n : Fin 256, strings_IndexByte.f (⟨#[48, 49, 50, 51, 52, 53, 54, 55, 56, 57, 97, 98, 99, 100, 101, 102]⟩ : ByteArray) ((n.val : Nat) : Int) = some (hv ((n.val : Nat) : Int)) := by decide +kernel
theorem index_eq (c : Int) (h0 : 0 ≤ c) (h1 : c ≤ 255) : strings_IndexByte.f (⟨#[48, 49, 50, 51, 52, 53, 54, 55, 56, 57, 97, 98, 99, 100, 101, 102]⟩ : ByteArray) c = some (hv c) := by
  have h := index_all ⟨c.toNat, by omega⟩
  rwa [Int.toNat_of_nonneg h0] at h
/-- The bytes that the figures from i on make; none where one is no figure. -/
def unhexOf (s : ByteArray) : Nat → Nat → Option (List Int)
  | _, 0 => some []
  | i, m + 1 => if hv (bt s (i : Int)) < 0 ∨ hv (bt s ((i + 1 : Nat) : Int)) < 0 then none else (unhexOf s (i + 2) m).map fun r => (16 * hv (bt s (i : Int)) + hv (bt s ((i + 1 : Nat) : Int))) :: r
def uh (l : List Int) : Option (List Int) → ByteArray × Bool
  | none => (⟨#[]⟩, false)
  | some r => (strOfNums (l ++ r), true)
theorem impl_unhex_loop (s : ByteArray) (hs : s.size ≤ 40000) (m : Nat) : ∀ (l : List Int) (i : Nat), i + 2 * m = s.size → l.length ≤ i → Ev (fun k => impl_Unhex.l0 k s l (i : Int)) (uh l (unhexOf s i m)) := by
  induction m with
  | zero =>
    intro l i hi hl
    refine Ev.last (fun k => ?_)
    simp only [impl_Unhex.l0, unhexOf, uh, List.append_nil]
    rw [if_neg (by omega)]
  | succ m ih =>
    intro l i hi hl
    have hb := bt_range s (i : Int)
    have hc := bt_range s ((i + 1 : Nat) : Int)
    have h1 := hv_range (bt s (i : Int))
    have h2 := hv_range (bt s ((i + 1 : Nat) : Int))
    have hw1 : wrap64 ((i : Int) + 1) = ((i + 1 : Nat) : Int) := by rw [w64 (by omega) (by omega)]; omega
    have hw2 : wrap64 ((i : Int) + 2) = ((i + 2 : Nat) : Int) := by rw [w64 (by omega) (by omega)]; omega
    by_cases hbad : hv (bt s (i : Int)) < 0 ∨ hv (bt s ((i + 1 : Nat) : Int)) < 0
    · refine Ev.last (fun k => ?_)
      simp only [impl_Unhex.l0, unhexOf, hw1, index_eq _ hb.1 hb.2, index_eq _ hc.1 hc.2, Option.bind_some]
      rw [if_pos hbad, if_pos (by omega), if_pos (by omega), if_pos (by omega), if_pos (by omega)]
      by_cases q : hv (bt s (i : Int)) < 0
      · rw [if_pos q]
        rfl
      · rw [if_neg q, if_pos (by omega)]
        rfl
    · have hi' := ih (l ++ [16 * hv (bt s (i : Int)) + hv (bt s ((i + 1 : Nat) : Int))]) (i + 2) (by omega) (by simp; omega)
      have e : uh l (unhexOf s i (m + 1)) = uh (l ++ [16 * hv (bt s (i : Int)) + hv (bt s ((i + 1 : Nat) : Int))]) (unhexOf s (i + 2) m) := by
        simp only [unhexOf, if_neg hbad]
        cases unhexOf s (i + 2) m with
        | none => rfl
        | some r => simp [uh]
      rw [e]
      refine Ev.step (fun k => ?_) hi'
      simp only [impl_Unhex.l0, hw1, hw2, index_eq _ hb.1 hb.2, index_eq _ hc.1 hc.2, Option.bind_some]
      rw [if_pos (by omega), if_pos (by omega), if_pos (by omega), if_pos (by omega), if_neg (by omega), if_neg (by omega), if_pos (by omega), w64 (x := 16 * hv (bt s (i : Int))) (by omega) (by omega), w64 (by omega) (by omega), show (16 * hv (bt s (i : Int)) + hv (bt s ((i + 1 : Nat) : Int))) % 256 = 16 * hv (bt s (i : Int)) + hv (bt s ((i + 1 : Nat) : Int)) by omega]
/-- What both Unhexes answer. -/
def UH (s : ByteArray) : ByteArray × Bool := if s.size ≤ 40000 ∧ s.size % 2 = 0 then uh [] (unhexOf s 0 (s.size / 2)) else (⟨#[]⟩, false)
theorem impl_unhex (s : ByteArray) : Ev (fun k => impl_Unhex.f k s) (UH s) := by
  have no : ¬ (s.size ≤ 40000 ∧ s.size % 2 = 0) → Ev (fun k => impl_Unhex.j0 k s true) (UH s) := fun h => Ev.last (fun k => by simp only [impl_Unhex.j0]; unfold UH; rw [if_neg h]; rfl)
  unfold impl_Unhex.f
  by_cases h2 : s.size % 2 = 0
  · simp only [if_pos (show (s.size : Int) % 2 = 0 by omega)]
    by_cases h1 : s.size ≤ 40000
    · rw [decide_eq_false (by omega)]
      refine Ev.step (f := fun k => impl_Unhex.l0 k s [] 0) (fun k => by simp only [impl_Unhex.j0]; rfl) ?_
      unfold UH
      rw [if_pos ⟨h1, h2⟩]
      exact impl_unhex_loop s h1 (s.size / 2) [] 0 (by omega) (by simp)
    · rw [decide_eq_true (by omega)]
      exact no (fun h => h1 h.1)
  · simp only [if_neg (show ¬ (s.size : Int) % 2 = 0 by omega)]
    exact no (fun h => h2 h.2)

/-- A figure's byte. -/
def fig (d : Int) : Int := if d < 10 then 48 + d else 87 + d
theorem table_eq (d : Int) (h0 : 0 ≤ d) (h1 : d < 16) : bt (⟨#[48, 49, 50, 51, 52, 53, 54, 55, 56, 57, 97, 98, 99, 100, 101, 102]⟩ : ByteArray) d = fig d := by
  have key : ∀ n : Fin 16, bt (⟨#[48, 49, 50, 51, 52, 53, 54, 55, 56, 57, 97, 98, 99, 100, 101, 102]⟩ : ByteArray) ((n.val : Nat) : Int) = fig ((n.val : Nat) : Int) := by decide +kernel
  have := key ⟨d.toNat, by omega⟩
  rwa [Int.toNat_of_nonneg h0] at this
theorem hv_fig (d : Int) (h0 : 0 ≤ d) (h1 : d < 16) : hv (fig d) = d := by
  have key : ∀ n : Fin 16, hv (fig ((n.val : Nat) : Int)) = ((n.val : Nat) : Int) := by decide +kernel
  have := key ⟨d.toNat, by omega⟩
  rwa [Int.toNat_of_nonneg h0] at this
theorem fig_range (d : Int) (h0 : 0 ≤ d) (h1 : d < 16) : 0 ≤ fig d ∧ fig d ≤ 255 := by
  unfold fig
  split <;> omega
/-- The figures of the bytes from i on. -/
def hexOf (s : ByteArray) : Nat → Nat → List Int
  | _, 0 => []
  | i, m + 1 => fig (bt s (i : Int) / 16) :: fig (bt s (i : Int) % 16) :: hexOf s (i + 1) m
theorem hexOf_length (s : ByteArray) (m : Nat) : ∀ i, (hexOf s i m).length = 2 * m := by
  induction m with
  | zero => intro i; rfl
  | succ m ih => intro i; simp only [hexOf, List.length_cons, ih]; omega
theorem hexOf_range (s : ByteArray) (m : Nat) : ∀ i, ∀ x ∈ hexOf s i m, 0 ≤ x ∧ x ≤ 255 := by
  induction m with
  | zero => intro i x hx; simp [hexOf] at hx
  | succ m ih =>
    intro i x hx
    have hb := bt_range s (i : Int)
    simp only [hexOf, List.mem_cons] at hx
    rcases hx with rfl | rfl | hx
    · exact fig_range _ (by omega) (by omega)
    · exact fig_range _ (by omega) (by omega)
    · exact ih (i + 1) x hx
theorem hex_loop1 (s : ByteArray) (hs : s.size ≤ 20000) (m : Nat) : ∀ (l : List Int) (i : Nat), i + m = s.size → l.length = 2 * i → Ev (fun k => impl_Hex.l0 k s l (i : Int)) (strOfNums (l ++ hexOf s i m), true) := by
  induction m with
  | zero =>
    intro l i hi hl
    simp only [hexOf, List.append_nil]
    exact Ev.last (fun k => by simp only [impl_Hex.l0]; rw [if_neg (by omega)])
  | succ m ih =>
    intro l i hi hl
    have hb := bt_range s (i : Int)
    have hw : wrap64 ((i : Int) + 1) = ((i + 1 : Nat) : Int) := by rw [w64 (by omega) (by omega)]; omega
    have h2 := ih (l ++ [fig (bt s (i : Int) / 16), fig (bt s (i : Int) % 16)]) (i + 1) (by omega) (by simp; omega)
    have e : l ++ hexOf s i (m + 1) = l ++ [fig (bt s (i : Int) / 16), fig (bt s (i : Int) % 16)] ++ hexOf s (i + 1) m := by simp [hexOf]
    rw [e]
    refine Ev.step (fun k => ?_) h2
    simp only [impl_Hex.l0]
    rw [if_pos (by omega), if_pos (by omega), tdiv_nn hb.1, tmod_nn hb.1, show bt s (i : Int) / 16 % 256 = bt s (i : Int) / 16 by omega, if_pos (by omega), if_pos (by omega), if_pos (by omega), if_pos (by omega), table_eq _ (by omega) (by omega), table_eq _ (by omega) (by omega), hw]
    simp only [Option.bind_some]
    rw [if_pos (by simp; omega)]
theorem hex_impl (s : ByteArray) (hs : s.size ≤ 20000) : Ev (fun k => impl_Hex.f k s) (strOfNums (hexOf s 0 s.size), true) := by
  have h := hex_loop1 s hs s.size [] 0 (by omega) (by simp)
  unfold impl_Hex.f
  simp only [if_neg (show ¬ (s.size : Int) > 20000 by omega)]
  exact h
/-- The bytes of a text, from a on. -/
def btl (t : ByteArray) : Nat → Nat → List Int
  | _, 0 => []
  | a, m + 1 => bt t (a : Int) :: btl t (a + 1) m
theorem btl_map (t : ByteArray) (m : Nat) : ∀ a, a + m = t.size → ((btl t a m).map fun n => UInt8.ofNat n.toNat) = t.data.toList.drop a := by
  induction m with
  | zero =>
    intro a h
    rw [List.drop_of_length_le (by rw [dlen]; omega)]
    rfl
  | succ m ih =>
    intro a h
    have hl : a < t.data.toList.length := by rw [dlen]; omega
    rw [List.drop_eq_getElem_cons hl, ← ih (a + 1) (by omega)]
    simp only [btl, List.map_cons]
    congr 1
    rw [bt_list, List.getElem?_eq_getElem hl]
    simp only [Option.map_some, Option.getD_some, Int.toNat_natCast]
    exact UInt8.ofNat_toNat
theorem str_btl (t : ByteArray) : strOfNums (btl t 0 t.size) = t := by
  apply toList_inj
  rw [Go.Lib.toList_data, Go.Lib.toList_data, strOfNums_data, btl_map t t.size 0 (by omega), List.drop_zero]
theorem unhex_hex (s t : ByteArray) (m : Nat) : ∀ i a, (∀ j : Nat, j < 2 * m → bt s ((i + j : Nat) : Int) = (hexOf t a m).getD j 0) → unhexOf s i m = some (btl t a m) := by
  induction m with
  | zero => intro i a _; rfl
  | succ m ih =>
    intro i a h
    have hb := bt_range t (a : Int)
    have h0 : bt s ((i : Nat) : Int) = fig (bt t (a : Int) / 16) := h 0 (by omega)
    have h1 : bt s ((i + 1 : Nat) : Int) = fig (bt t (a : Int) % 16) := h 1 (by omega)
    have h2 := ih (i + 2) (a + 1) (fun j hj => by
      have q := h (j + 2) (by omega)
      rw [show i + (j + 2) = i + 2 + j by omega] at q
      exact q)
    simp only [unhexOf, btl]
    rw [h0, h1, hv_fig _ (by omega) (by omega), hv_fig _ (by omega) (by omega), if_neg (by omega), h2]
    simp only [Option.map_some]
    congr 2
    omega
theorem UH_hex (t : ByteArray) (ht : t.size ≤ 20000) : UH (strOfNums (hexOf t 0 t.size)) = (t, true) := by
  have hl := hexOf_length t t.size 0
  have hsz : (strOfNums (hexOf t 0 t.size)).size = 2 * t.size := by rw [strOfNums_size, hl]
  unfold UH
  rw [hsz, if_pos (by omega), show 2 * t.size / 2 = t.size by omega, unhex_hex (strOfNums (hexOf t 0 t.size)) t t.size 0 0 (fun j hj => by
    rw [Nat.zero_add, bt_str _ j (by rw [hl]; exact hj) (hexOf_range t t.size 0)])]
  show (strOfNums ([] ++ btl t 0 t.size), true) = _
  rw [List.nil_append, str_btl]

/-- A number's decimal text. -/
def DT (n : Int) : ByteArray := ⟨(Lib.itoa n).toArray⟩
theorem data_inj {a b : ByteArray} (h : a.data.toList = b.data.toList) : a = b := toList_inj (by rw [Go.Lib.toList_data, Go.Lib.toList_data, h])
/-- The number that decimal digits spell. -/
def dval (a : Nat) : List UInt8 → Nat
  | [] => a
  | c :: r => dval (10 * a + (c.toNat - 48)) r
def digit (c : UInt8) : Prop := 48 ≤ c.toNat ∧ c.toNat ≤ 57
instance (c : UInt8) : Decidable (digit c) := by unfold digit; infer_instance
theorem dval_app (l r : List UInt8) : ∀ a, dval a (l ++ r) = dval (dval a l) r := by
  induction l with
  | nil => intro a; rfl
  | cons c l ih => intro a; exact ih _
theorem dig_facts (u : Nat) : (∀ c ∈ Lib.decDigits u, digit c) ∧ dval 0 (Lib.decDigits u) = u ∧ Lib.decDigits u ≠ [] := by
  induction u using Nat.strongRecOn with
  | _ u ih =>
    unfold Lib.decDigits
    by_cases h : u < 10
    · rw [dif_pos h]
      have e : (UInt8.ofNat (48 + u)).toNat = 48 + u := by rw [UInt8.toNat_ofNat']; omega
      refine ⟨fun c hc => ?_, ?_, by simp⟩
      · rw [List.mem_singleton.1 hc]
        unfold digit
        rw [e]
        clear e ih
        omega
      · show 10 * 0 + ((UInt8.ofNat (48 + u)).toNat - 48) = u
        rw [e, Nat.mul_zero, Nat.zero_add, Nat.add_sub_cancel_left]
    · rw [dif_neg h]
      obtain ⟨h1, h2, h3⟩ := ih (u / 10) (by omega)
      have e : (UInt8.ofNat (48 + u % 10)).toNat = 48 + u % 10 := by rw [UInt8.toNat_ofNat']; omega
      refine ⟨fun c hc => ?_, ?_, by simp⟩
      · rcases List.mem_append.1 hc with hc | hc
        · exact h1 c hc
        · rw [List.mem_singleton.1 hc]
          unfold digit
          rw [e]
          clear e ih h1 h2
          omega
      · rw [dval_app, h2]
        show 10 * (u / 10) + ((UInt8.ofNat (48 + u % 10)).toNat - 48) = u
        rw [e, Nat.add_sub_cancel_left]
        exact Nat.div_add_mod u 10
theorem dig_len (d : Nat) : ∀ u, u < 10 ^ (d + 1) → (Lib.decDigits u).length ≤ d + 1 := by
  induction d with
  | zero =>
    intro u h
    unfold Lib.decDigits
    rw [dif_pos (by simpa using h)]
    simp
  | succ d ih =>
    intro u h
    unfold Lib.decDigits
    by_cases h10 : u < 10
    · rw [dif_pos h10]; simp
    · rw [dif_neg h10, List.length_append]
      have := ih (u / 10) (by rw [Nat.pow_succ] at h; omega)
      simp only [List.length_singleton]
      omega
theorem parse_digits (l : List UInt8) (hd : ∀ c ∈ l, digit c) : ∀ a, dval a l ≤ 1000000000 → Lib.parseUint10 a l = .ok (dval a l) := by
  have mono : ∀ (l : List UInt8) a, a ≤ dval a l := by
    intro l
    induction l with
    | nil => intro a; exact Nat.le_refl _
    | cons c r ih => intro a; exact Nat.le_trans (by omega) (ih (10 * a + (c.toNat - 48)))
  induction l with
  | nil => intro a _; rfl
  | cons c r ih =>
    intro a h
    have hc := hd c List.mem_cons_self
    have hm := mono r (10 * a + (c.toNat - 48))
    have h' : dval (10 * a + (c.toNat - 48)) r ≤ 1000000000 := h
    have hc' : 48 ≤ c.toNat ∧ c.toNat ≤ 57 := hc
    simp only [Lib.parseUint10]
    rw [if_pos hc', if_neg (by omega), if_neg (by omega), show a * 10 + (c.toNat - 48) = 10 * a + (c.toNat - 48) by omega, ih (fun x hx => hd x (List.mem_cons_of_mem _ hx)) _ h']
    rfl
/-- The number that the text is the decimal numeral of, within the limits. -/
def Num (s : ByteArray) (m : Int) : Prop := 0 ≤ m ∧ m ≤ 1000000000 ∧ DT m = s
theorem DT_list (m : Int) (h : 0 ≤ m) : (DT m).data.toList = Lib.decDigits m.toNat := by
  show (Lib.itoa m).toArray.toList = _
  unfold Lib.itoa
  rw [if_neg (by omega)]
theorem num_facts {s : ByteArray} {m : Int} (h : Num s m) : (∀ c ∈ s.data.toList, digit c) ∧ dval 0 s.data.toList = m.toNat ∧ s.data.toList ≠ [] ∧ s.size ≤ 10 := by
  obtain ⟨h0, h1, rfl⟩ := h
  rw [DT_list m h0]
  obtain ⟨a, b, c⟩ := dig_facts m.toNat
  refine ⟨a, b, c, ?_⟩
  have hl := dig_len 9 m.toNat (by have : (10 : Nat) ^ (9 + 1) = 10000000000 := by decide
                                   omega)
  have e : (DT m).size = (DT m).data.toList.length := by rw [Array.length_toList]; rfl
  rw [e, DT_list m h0]
  exact hl
/-- What both ReadDecimals answer. -/
noncomputable def RDec (s : ByteArray) : Int × Bool := match Lib.atoiAll s.data.toList with
  | .ok v => if 0 ≤ v ∧ v ≤ 1000000000 ∧ DT v = s then (v, true) else (0, false)
  | _ => (0, false)
theorem RDec_num {s : ByteArray} {m : Int} (h : Num s m) : RDec s = (m, true) := by
  obtain ⟨hd, hv, hne, _⟩ := num_facts h
  have hm := h
  obtain ⟨h0, h1, _⟩ := h
  have ha : Lib.atoiAll s.data.toList = .ok m := by
    cases hs : s.data.toList with
    | nil => exact absurd hs hne
    | cons c r =>
      have hc : digit c := hd c (by rw [hs]; exact List.mem_cons_self)
      unfold digit at hc
      have hp := parse_digits s.data.toList hd 0 (by rw [hv]; omega)
      rw [hv, hs] at hp
      unfold Lib.atoiAll
      simp only
      rw [if_neg (by omega)]
      unfold Lib.parseMag
      rw [if_neg (by simp), hp]
      simp only
      rw [if_neg (by omega), if_neg (by omega), if_neg (by omega)]
      congr 1
      omega
  unfold RDec
  rw [ha]
  exact if_pos hm

theorem new_ends (s : List Int) (hs : s.length ≤ 140737488351232) (d : Nat) : ∀ (h i : Int), 0 ≤ i → i ≤ s.length → (s.length : Int) - i = d → ∃ h', Ev (fun k => spec_l01New.l0 k s h i) (s, 0, h') := by
  induction d with
  | zero =>
    intro h i h0 h1 hd
    exact ⟨h, Ev.last (fun k => by simp only [spec_l01New.l0]; rw [if_neg (by omega)])⟩
  | succ d ih =>
    intro h i h0 h1 hd
    by_cases hf : i < 4000
    · obtain ⟨h', hr⟩ := ih (Go.bits .and .i64 (wrap64 ((wrap64 ((wrap64 (h * 131)) + (wrap64 (rd s i)))) + 7)) 1073741823) (i + 1) (by omega) (by omega) (by omega)
      exact ⟨h', Ev.step (fun k => by simp only [spec_l01New.l0]; rw [if_pos (by omega), if_pos hf, if_pos h0, w64 (x := i + 1) (by omega) (by omega)]) hr⟩
    · exact ⟨h, Ev.last (fun k => by simp only [spec_l01New.l0]; rw [if_pos (by omega), if_neg hf])⟩
theorem new_ev (s : List Int) (hs : s.length ≤ 140737488351232) : ∃ h, Ev (fun k => spec_l01New.f k s) (s, 0, h) := by
  obtain ⟨h, hr⟩ := new_ends s hs s.length (wrap64 (37701 + (s.length : Int))) 0 (by omega) (by omega) (by omega)
  exact ⟨h, hr⟩

theorem byte_some (s : List Int) (hs : s.length ≤ 140737488351232) (i h : Int) (h0 : 0 ≤ i) (h1 : i ≤ s.length) : ∃ b i' h', spec_l01Byte.f s i h = some (b, i', h') ∧ 0 ≤ b ∧ b ≤ 255 ∧ 0 ≤ i' ∧ i' ≤ s.length := by
  unfold spec_l01Byte.f
  by_cases hi : i < (s.length : Int)
  · rw [if_pos hi, if_pos h0, w64 (x := i + 1) (by omega) (by omega), and255]
    exact ⟨_, _, _, rfl, by omega, by omega, by omega, by omega⟩
  · rw [if_neg hi, and255]
    exact ⟨_, _, _, rfl, by omega, by omega, by omega, by omega⟩

theorem below_some (s : List Int) (hs : s.length ≤ 140737488351232) (i h n : Int) (h0 : 0 ≤ i) (h1 : i ≤ s.length) : ∃ r i' h', spec_l01Below.f s i h n = some (r, i', h') ∧ 0 ≤ i' ∧ i' ≤ s.length ∧ 0 ≤ r ∧ (n ≤ 0 → r = 0) ∧ (0 < n → r < n) := by
  unfold spec_l01Below.f
  by_cases hn : n ≤ 0
  · rw [if_pos hn]
    exact ⟨_, _, _, rfl, h0, h1, by omega, fun _ => rfl, fun h => by omega⟩
  · rw [if_neg hn]
    by_cases hm : n ≤ 256
    · rw [if_pos hm]
      obtain ⟨b, i1, h1', e, b0, b1, c0, c1⟩ := byte_some s hs i h h0 h1
      rw [e]
      simp only [Option.bind_some]
      rw [if_neg (by omega), tmod_nn b0]
      have p0 := Int.emod_nonneg b (show n ≠ 0 by omega)
      have p1 := Int.emod_lt_of_pos b (show 0 < n by omega)
      exact ⟨_, _, _, rfl, c0, c1, p0, fun h => by omega, fun _ => p1⟩
    · rw [if_neg hm]
      obtain ⟨a, i1, g1, e1, a0, a1, c0, c1⟩ := byte_some s hs i h h0 h1
      rw [e1]
      simp only [Option.bind_some]
      obtain ⟨b, i2, g2, e2, b0, b1, d0, d1⟩ := byte_some s hs i1 g1 c0 c1
      rw [e2]
      simp only [Option.bind_some]
      obtain ⟨c, i3, g3, e3, k0, k1, f0, f1⟩ := byte_some s hs i2 g2 d0 d1
      rw [e3]
      simp only [Option.bind_some]
      obtain ⟨d, i4, g4, e4, l0, l1, m0, m1⟩ := byte_some s hs i3 g3 f0 f1
      rw [e4]
      simp only [Option.bind_some]
      rw [if_neg (by omega), w64 (x := a * 16777216) (by omega) (by omega), w64 (x := b * 65536) (by omega) (by omega), w64 (x := c * 256) (by omega) (by omega), w64 (x := a * 16777216 + b * 65536) (by omega) (by omega),
        w64 (x := a * 16777216 + b * 65536 + c * 256) (by omega) (by omega), w64 (x := a * 16777216 + b * 65536 + c * 256 + d) (by omega) (by omega), tmod_nn (by omega)]
      have p0 := Int.emod_nonneg (a * 16777216 + b * 65536 + c * 256 + d) (show n ≠ 0 by omega)
      have p1 := Int.emod_lt_of_pos (a * 16777216 + b * 65536 + c * 256 + d) (show 0 < n by omega)
      exact ⟨_, _, _, rfl, m0, m1, p0, fun h => by omega, fun _ => p1⟩

theorem pickint_some (s : List Int) (hs : s.length ≤ 140737488351232) (i h : Int) (l : List Int) (hl : 0 < l.length) (h0 : 0 ≤ i) (h1 : i ≤ s.length) : ∃ r i' h', spec_l01PickInt.f s i h l = some (r, i', h') ∧ r ∈ l ∧ 0 ≤ i' ∧ i' ≤ s.length := by
  obtain ⟨r, i', h', e, i0, i1, r0, _, r1⟩ := below_some s hs i h (l.length : Int) h0 h1
  have hr := r1 (by omega)
  refine ⟨rd l r, i', h', ?_, rd_mem r0 hr, i0, i1⟩
  unfold spec_l01PickInt.f
  rw [e]
  simp only [Option.bind_some]
  rw [if_pos r0, if_pos hr]

theorem once_some (s : List Int) (hs : s.length ≤ 140737488351232) (i h n : Int) (h0 : 0 ≤ i) (h1 : i ≤ s.length) : ∃ b i' h', spec_l01Once.f s i h n = some (b, i', h') ∧ 0 ≤ i' ∧ i' ≤ s.length := by
  unfold spec_l01Once.f
  obtain ⟨r, i1, g1, e, c0, c1, _⟩ := below_some s hs i h n h0 h1
  rw [e]
  exact ⟨_, _, _, rfl, c0, c1⟩

theorem long_loop (n c : Int) (h1 : n ≤ 100000) (d : Nat) : ∀ (l : List Int) (i : Int), 0 ≤ i → i ≤ n → n - i = d → l.length = n → ∃ t, Ev (fun k => spec_l01Long.l0 k n c l i) t ∧ (t.size : Int) = n := by
  induction d with
  | zero =>
    intro l i i0 i1 hd hl
    exact ⟨strOfNums l, Ev.last (fun k => by simp only [spec_l01Long.l0]; rw [if_neg (by omega)]), by rw [strOfNums_size]; omega⟩
  | succ d ih =>
    intro l i i0 i1 hd hl
    obtain ⟨t, ht, r⟩ := ih (l.set i.toNat c) (i + 1) (by omega) (by omega) (by omega) (by rw [List.length_set]; exact hl)
    refine ⟨t, Ev.step (fun k => ?_) ht, r⟩
    simp only [spec_l01Long.l0]
    rw [if_pos (by omega), if_pos i0, if_pos (by omega), w64 (x := i + 1) (by omega) (by omega)]
theorem long_ev (n c : Int) (h0 : 0 ≤ n) (h1 : n ≤ 100000) : ∃ t, Ev (fun k => spec_l01Long.f k n c) t ∧ (t.size : Int) = n := by
  obtain ⟨t, ht, r⟩ := long_loop n c h1 n.toNat (List.replicate n.toNat 0) 0 (by omega) h0 (by omega) (by simp; omega)
  refine ⟨t, Ev.congr (fun k => ?_) ht, r⟩
  unfold spec_l01Long.f
  rw [if_pos h0, if_pos (by omega)]

theorem text_loop (s : List Int) (hs : s.length ≤ 140737488351232) (n : Int) (hn : n ≤ 5000) (d : Nat) : ∀ (l : List Int) (j i h : Int), 0 ≤ j → j ≤ n → n - j = d → l.length = j → 0 ≤ i → i ≤ s.length → ∃ t i' h', Ev (fun k => spec_l01Text.l0 k n l j s i h) (t, i', h') ∧ (t.size : Int) = n ∧ 0 ≤ i' ∧ i' ≤ s.length := by
  induction d with
  | zero =>
    intro l j i h j0 j1 hd hl h0 h1
    exact ⟨strOfNums l, i, h, Ev.last (fun k => by simp only [spec_l01Text.l0]; rw [if_neg (by omega)]), by rw [strOfNums_size]; omega, h0, h1⟩
  | succ d ih =>
    intro l j i h j0 j1 hd hl h0 h1
    obtain ⟨b, i1, g1, e, _, _, i0, i2⟩ := byte_some s hs i h h0 h1
    obtain ⟨t, i', h', ht, r⟩ := ih (l ++ [b % 256]) (j + 1) i1 g1 (by omega) (by omega) (by omega) (by simp; omega) i0 i2
    refine ⟨t, i', h', Ev.step (fun k => ?_) ht, r⟩
    simp only [spec_l01Text.l0]
    rw [if_pos (by omega), e]
    simp only [Option.bind_some]
    rw [if_pos (by omega), w64 (x := j + 1) (by omega) (by omega)]
theorem text_ev (s : List Int) (hs : s.length ≤ 140737488351232) (i h n : Int) (n0 : 0 ≤ n) (n1 : n ≤ 5000) (h0 : 0 ≤ i) (h1 : i ≤ s.length) : ∃ t i' h', Ev (fun k => spec_l01Text.f k s i h n) (t, i', h') ∧ (t.size : Int) = n ∧ 0 ≤ i' ∧ i' ≤ s.length := by
  obtain ⟨t, i', h', ht, r⟩ := text_loop s hs n n1 n.toNat [] 0 i h (by omega) n0 (by omega) rfl h0 h1
  refine ⟨t, i', h', ?_, r⟩
  refine Ev.congr (fun k => ?_) (Ev.step (g := fun k => spec_l01Text.j0 k n s i h) (fun k => by simp only [spec_l01Text.j0]) ht)
  unfold spec_l01Text.f
  rw [if_neg (by omega)]

theorem number_some (s : List Int) (hs : s.length ≤ 140737488351232) (i h : Int) (h0 : 0 ≤ i) (h1 : i ≤ s.length) : ∃ r, spec_l01Number.f s i h = some r := by
  unfold spec_l01Number.f
  obtain ⟨r, i1, g1, e, c0, c1, _⟩ := below_some s hs i h 4 h0 h1
  rw [e]
  simp only [Option.bind_some]
  by_cases r0 : r = 0
  · rw [if_pos r0]
    obtain ⟨x, i2, g2, e2, _⟩ := pickint_some s hs i1 g1 (([(-1), 0, 127, 128, 16383, 16384, 1000000000, 1000000001, 9223372036854775807, (-9223372036854775808)] : List Int)) (by decide) c0 c1
    rw [e2]
    exact ⟨_, rfl⟩
  · rw [if_neg r0]
    by_cases r1 : r = 1
    · rw [if_pos r1]
      obtain ⟨x, i2, g2, e2, _⟩ := below_some s hs i1 g1 1000000000 c0 c1
      rw [e2]
      exact ⟨_, rfl⟩
    · rw [if_neg r1]
      obtain ⟨x, i2, g2, e2, _⟩ := below_some s hs i1 g1 400 c0 c1
      rw [e2]
      exact ⟨_, rfl⟩
theorem drawvar_ev (s : List Int) (hs : s.length ≤ 140737488351232) : ∃ n, Ev (fun k => spec_DrawVarText.f k s) n := by
  obtain ⟨h, hn⟩ := new_ev s hs
  obtain ⟨r, hr⟩ := number_some s hs 0 h (by omega) (by omega)
  refine ⟨r.1, ?_⟩
  unfold spec_DrawVarText.f
  refine Ev.bind hn (Ev.now' fun _ => ?_)
  simp only [hr]
  rfl
theorem drawhex_ev (s : List Int) (hs : s.length ≤ 140737488351232) : ∃ t, Ev (fun k => spec_DrawHex.f k s) t := by
  obtain ⟨h, hn⟩ := new_ev s hs
  obtain ⟨b, i1, g1, e1, c0, c1⟩ := once_some s hs 0 h 60 (by omega) (by omega)
  cases b with
  | true =>
    obtain ⟨r, i2, g2, e2, _, _, r0, _, r1⟩ := below_some s hs i1 g1 2 c0 c1
    have hr := r1 (by omega)
    obtain ⟨t, ht, _⟩ := long_ev (wrap64 (20000 + r)) 200 (by rw [w64 (by omega) (by omega)]; omega) (by rw [w64 (by omega) (by omega)]; omega)
    refine ⟨t, ?_⟩
    unfold spec_DrawHex.f
    refine Ev.bind hn ?_
    simp only [e1, Option.bind_some, if_true, e2]
    exact Ev.bind ht (Ev.now' fun _ => rfl)
  | false =>
    obtain ⟨r, i2, g2, e2, d0, d1, r0, _, r1⟩ := below_some s hs i1 g1 30 c0 c1
    have hr := r1 (by omega)
    obtain ⟨t, i3, g3, ht, _⟩ := text_ev s hs i2 g2 r r0 (by omega) d0 d1
    refine ⟨t, ?_⟩
    unfold spec_DrawHex.f
    refine Ev.bind hn ?_
    simp only [e1, Option.bind_some, Bool.false_eq_true, if_false, e2]
    exact Ev.bind ht (Ev.now' fun _ => rfl)
theorem dec_back (n : Nat) (hn : n ≤ 1000000000) : (numDT (n : Int)).size ≤ 10 ∧ numRDec (numDT (n : Int)) = ((n : Int), true) := by
  have h : Num (numDT (n : Int)) (n : Int) := ⟨by omega, by omega, rfl⟩
  exact ⟨(num_facts h).2.2.2, RDec_num h⟩
theorem j2_ev (n : Nat) (v t : ByteArray) (b : Int) (ht : t.size ≤ 300) (hb : b = wrap64 ((v.size : Int) + 1)) : Ev (fun k => laws_FnNumbers.j2 k (n : Int) v true (n : Int) b true (n : Int) true t) true := by
  refine Ev.step (f := fun k => (impl_ShortText.f k t).bind fun bt223 => ((impl_ReadShort.f k bt223.1 0).bind fun bt225 => ((impl_Hex.f k t).bind fun bt228 => ((impl_Unhex.f k bt228.1).bind fun bt230 => (if true = true then (if true = true then (if true = true then (if bt223.2 = true then (if bt225.2.2 = true then (if bt228.2 = true then (if bt230.2 = true then (if (n : Int) = (n : Int) then (if (n : Int) = (n : Int) then (if b = (wrap64 ((v.size : Int) + 1)) then (if bt225.1.toList = t.toList then (if bt225.2.1 = (bt223.1.size : Int) then (some (bt230.1.toList == t.toList)) else (some false)) else (some false)) else (some false)) else (some false)) else (some false)) else (some false)) else (some false)) else (some false)) else (some false)) else (some false)) else (some false)) else (some false)))))) (fun k => by simp only [laws_FnNumbers.j2]) ?_
  have hu := impl_unhex (strOfNums (hexOf t 0 t.size))
  rw [UH_hex t (by omega)] at hu
  refine Ev.bind (shorttext_ev t (by omega)) (Ev.bind (short_back0 t (strOfNums (venc t.size) ++ t) (by omega) rfl) (Ev.bind (hex_impl t (by omega)) (Ev.bind hu (Ev.now' fun _ => ?_))))
  rw [if_pos rfl, if_pos rfl, if_pos rfl, if_pos rfl, if_pos rfl, if_pos rfl, if_pos rfl, if_pos rfl, if_pos rfl, if_pos hb, if_pos rfl, if_pos rfl]
  simp
theorem j1_ev (l : List Int) (hl : l.length ≤ 140737488351232) (n : Nat) (hn : n ≤ 1000000000) : Ev (fun k => laws_FnNumbers.j1 k l (n : Int)) true := by
  refine Ev.step (f := fun k => _) (fun k => by simp only [laws_FnNumbers.j1]; rfl) ?_
  have hv := venc_length n
  have hd := dec_back n hn
  have h1 : (⟨#[120]⟩ : ByteArray).size = 1 := rfl
  refine Ev.bind (vartext_ev n hn) ?_
  have hz : (strOfNums (venc n)).size = (venc n).length := strOfNums_size _
  have hz2 : ((⟨#[120]⟩ : ByteArray) ++ strOfNums (venc n)).size = 1 + (venc n).length := by rw [ByteArray.size_append, hz, h1]
  have h3 : (⟨#[121]⟩ : ByteArray).size = 1 := rfl
  have hrv : Ev (fun k => impl_ReadVar.f k (((⟨#[120]⟩ : ByteArray) ++ strOfNums (venc n)) ++ (⟨#[121]⟩ : ByteArray)) 1) ((n : Int), ((1 + (venc n).length : Nat) : Int), true) := by
    have q := readvar_back (⟨#[120]⟩ : ByteArray) (⟨#[121]⟩ : ByteArray) (((⟨#[120]⟩ : ByteArray) ++ strOfNums (venc n)) ++ (⟨#[121]⟩ : ByteArray)) n (by rw [ByteArray.size_append, hz2, h3]; omega) hn (by
      apply toList_inj
      simp only [Go.Lib.toList_data, app_data, List.append_assoc])
    rw [h1] at q
    exact q
  obtain ⟨t, ht⟩ := drawhex_ev l hl
  simp only [hz, hz2]
  refine Ev.congr (fun k => by rw [if_pos (by omega), if_pos (by omega)]) ?_
  refine Ev.bind hrv ?_
  have hdec : impl_Decimal.f (n : Int) = some (numDT (n : Int)) := by unfold impl_Decimal.f; rw [if_pos (by omega)]
  have hrd : impl_ReadDecimal.f (numDT (n : Int)) = some ((n : Int), true) := by unfold impl_ReadDecimal.f; rw [if_pos (by omega), hd.2]
  simp only [hdec, hrd, Option.bind_some]
  refine Ev.bind ht ?_
  have hw : (((1 + (venc n).length : Nat)) : Int) = wrap64 (((strOfNums (venc n)).size : Int) + 1) := by rw [hz, w64 (by omega) (by omega)]; omega
  by_cases h : (t.size : Int) > 300
  · simp only [if_pos h]
    exact j2_ev n _ _ _ (by decide) hw
  · simp only [if_neg h]
    exact j2_ev n _ _ _ (by omega) hw
theorem FnNumbers : laws_FnNumbers.Pure := by
  intro l h1 h2 h3
  have hs : l.length ≤ 140737488351232 := by omega
  unfold laws_FnNumbers.f laws_big.f
  by_cases hb : (l.length : Int) > 1048576
  · exact ⟨0, by rw [decide_eq_true hb]; rfl⟩
  · simp only [decide_eq_false hb, Option.bind_some, Bool.false_eq_true, if_false]
    obtain ⟨n, hn⟩ := drawvar_ev l hs
    have bad : Ev (fun k => laws_FnNumbers.j0 k l n true) true := Ev.step (f := fun k => laws_FnNumbers.j1 k l ((12345 : Nat) : Int)) (fun k => by simp only [laws_FnNumbers.j0]; rfl) (j1_ev l hs 12345 (by omega))
    refine Ev.rounds (Ev.bind hn ?_)
    by_cases n0 : n < 0
    · simp only [if_pos n0]
      exact bad
    · simp only [if_neg n0]
      by_cases n1 : n > 1000000000
      · simp only [decide_eq_true n1]
        exact bad
      · simp only [decide_eq_false n1]
        refine Ev.step (f := fun k => laws_FnNumbers.j1 k l n) (fun k => by simp only [laws_FnNumbers.j0]; rfl) ?_
        have q := j1_ev l hs n.toNat (by omega)
        rw [Int.toNat_of_nonneg (by omega)] at q
        exact q
end Go.Proofs.YtgidhjomadajlaaDoor.Pure
