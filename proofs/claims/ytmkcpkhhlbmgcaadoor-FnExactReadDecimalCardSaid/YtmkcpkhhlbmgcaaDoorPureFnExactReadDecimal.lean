/- FnExactReadDecimal: for every text the program's ReadDecimal answers what the reference's does; the listed variables start as the program's text lays them. -/
import Derived.Test.YtmkcpkhhlbmgcaaDoorPFnsx1
import Derived.Test.YtmkcpkhhlbmgcaaDoorAid
import Derived.Lib.ItoaNum
import Derived.Lib.AtoiAll
namespace Go.Proofs.YtmkcpkhhlbmgcaaDoor.Pure
open Go Go.RowKit Go.Proofs.YtmkcpkhhlbmgcaaDoor.PFns Go.Proofs.YtmkcpkhhlbmgcaaDoorW.PrintWords Go.Proofs.YtmkcpkhhlbmgcaaDoorW.PrintLast Go.Proofs.YtmkcpkhhlbmgcaaDoorW.PrintMore Go.Proofs.YtmkcpkhhlbmgcaaDoor.Aid
set_option linter.unusedVariables false
set_option linter.unusedSimpArgs false

/-- A number's decimal digits as a text. -/
def DD (u : Nat) : ByteArray := ⟨(Lib.decDigits u).toArray⟩
/-- A number's decimal text. -/
def DT (n : Int) : ByteArray := ⟨(Lib.itoa n).toArray⟩
theorem DD_list (u : Nat) : (DD u).data.toList = Lib.decDigits u := by simp [DD]
theorem data_inj {a b : ByteArray} (h : a.data.toList = b.data.toList) : a = b := toList_inj (by rw [Go.Lib.toList_data, Go.Lib.toList_data, h])
theorem app_data' (a b : ByteArray) : (a ++ b).data.toList = a.data.toList ++ b.data.toList := by rw [ByteArray.data_append, Array.toList_append]
theorem DD_big (u : Nat) (h : ¬ u < 10) : DD u = DD (u / 10) ++ strOfNums [((48 + u % 10 : Nat) : Int)] := by
  apply data_inj
  rw [app_data', DD_list, DD_list, strOfNums_data]
  conv => lhs; unfold Lib.decDigits
  rw [dif_neg h]
  rfl
theorem DD_small (u : Nat) (h : u < 10) : DD u = strOfNums [((48 + u : Nat) : Int)] := by
  apply data_inj
  rw [DD_list, strOfNums_data]
  unfold Lib.decDigits
  rw [dif_pos h]
  rfl
theorem app_assoc' (a b c : ByteArray) : a ++ b ++ c = a ++ (b ++ c) := by
  apply data_inj
  rw [app_data', app_data', app_data', app_data', List.append_assoc]
theorem figure_eq (d : Nat) (h : d < 10) : spec_l01Figure.f (d : Int) = some ((48 + d : Nat) : Int) := by
  unfold spec_l01Figure.f
  rw [if_pos (by omega), w64 (by omega) (by omega)]
  congr 1
  omega
theorem dec_loop (d : Nat) : ∀ (x : Int) (b : Bool) (s : ByteArray), x ≠ 0 → x.natAbs < 10 ^ d → -9223372036854775808 ≤ x → x ≤ 9223372036854775807 → s.size + d ≤ 1000 → Ev (fun k => spec_Decimal.l0 k x b s) (if b = true then (⟨#[45]⟩ : ByteArray) ++ (DD x.natAbs ++ s) else DD x.natAbs ++ s) := by
  induction d with
  | zero => intro x b s hx hd; simp at hd; exact absurd hd hx
  | succ d ih =>
    intro x b s hx hd h0 h1 hs
    have hq : x.natAbs % 10 < 10 := Nat.mod_lt _ (by decide)
    have ht : wrap64 (Int.tdiv x 10) = Int.tdiv x 10 ∧ (Int.tdiv x 10).natAbs = x.natAbs / 10 ∧ -9223372036854775808 ≤ Int.tdiv x 10 ∧ Int.tdiv x 10 ≤ 9223372036854775807 := by
      by_cases hn : 0 ≤ x
      · rw [tdiv_nn hn]
        refine ⟨w64 (by omega) (by omega), by omega, by omega, by omega⟩
      · have e : Int.tdiv x 10 = -((-x) / 10) := by
          have := Int.neg_tdiv (-x) 10
          rw [Int.neg_neg] at this
          rw [this, tdiv_nn (by omega)]
        rw [e]
        refine ⟨w64 (by omega) (by omega), by omega, by omega, by omega⟩
    obtain ⟨hw, hab, t0, t1⟩ := ht
    have hsz : (strOfNums [((48 + x.natAbs % 10 : Nat) : Int)]).size = 1 := by rw [strOfNums_size]; rfl
    have key : ∀ k, spec_Decimal.l0 (k + 1) x b s = spec_Decimal.l0 k (Int.tdiv x 10) b (strOfNums [((48 + x.natAbs % 10 : Nat) : Int)] ++ s) := fun k => by
      simp only [spec_Decimal.l0, hw]
      rw [if_neg hx]
      by_cases hn : 0 ≤ x
      · have e : Int.tmod x 10 = ((x.natAbs % 10 : Nat) : Int) := by rw [tmod_nn hn]; omega
        rw [e, if_neg (by omega), figure_eq _ hq]
        simp only [Option.bind_some]
        rw [if_pos (by omega)]
      · have e : Int.tmod x 10 = -((x.natAbs % 10 : Nat) : Int) := by
          have := Int.neg_tmod (-x) 10
          rw [Int.neg_neg] at this
          rw [this, tmod_nn (by omega)]
          omega
        rw [e, Int.neg_neg, w64 (by omega) (by omega), figure_eq _ hq]
        simp only [Option.bind_some]
        rw [if_pos (show (strOfNums [((48 + x.natAbs % 10 : Nat) : Int)]).size + s.size ≤ 9223372036854775807 by omega)]
        by_cases hz : x.natAbs % 10 = 0
        · rw [if_neg (by omega), show -((x.natAbs % 10 : Nat) : Int) = ((0 : Nat) : Int) by omega, figure_eq 0 (by omega), hz]
          simp only [Option.bind_some]
          rw [if_pos (by have : (strOfNums [((48 + 0 : Nat) : Int)]).size = 1 := (by rw [strOfNums_size]; rfl); omega)]
        · rw [if_pos (by omega)]
    by_cases hz : Int.tdiv x 10 = 0
    · have hlt : x.natAbs < 10 := by rw [hz] at hab; simp at hab; omega
      have e : DD x.natAbs = strOfNums [((48 + x.natAbs % 10 : Nat) : Int)] := by
        rw [DD_small _ hlt, show x.natAbs % 10 = x.natAbs by omega]
      rw [e]
      refine Ev.step key (Ev.last fun k => ?_)
      simp only [spec_Decimal.l0, hz, if_true]
      by_cases hb : b = true
      · rw [if_pos hb, if_pos hb, if_pos (by rw [ByteArray.size_append]; omega)]
      · rw [if_neg hb, if_neg hb]
    · have hbig : ¬ x.natAbs < 10 := fun hlt => hz (by omega)
      have hi := ih (Int.tdiv x 10) b (strOfNums [((48 + x.natAbs % 10 : Nat) : Int)] ++ s) hz (by rw [hab]; rw [Nat.pow_succ] at hd; omega) t0 t1 (by rw [ByteArray.size_append]; omega)
      have e2 : DD (x.natAbs / 10) ++ (strOfNums [((48 + x.natAbs % 10 : Nat) : Int)] ++ s) = DD x.natAbs ++ s := by rw [← app_assoc', ← DD_big _ hbig]
      rw [hab, e2] at hi
      exact Ev.step key hi
theorem dec_ev (n : Int) (h0 : -9223372036854775808 ≤ n) (h1 : n ≤ 9223372036854775807) : Ev (fun k => spec_Decimal.f k n) (DT n) := by
  unfold spec_Decimal.f
  by_cases hz : n = 0
  · subst hz
    have e : DT 0 = ⟨#[48]⟩ := by
      apply data_inj
      show (Lib.itoa 0).toArray.toList = _
      have : Lib.itoa 0 = [48] := by
        unfold Lib.itoa
        rw [if_neg (by decide)]
        unfold Lib.decDigits
        rw [dif_pos (by decide)]
        rfl
      rw [this]
    rw [e]
    exact Ev.now' fun _ => by rw [if_pos rfl]
  · have hd : n.natAbs < 10 ^ 20 := by
      have : (10 : Nat) ^ 20 = 100000000000000000000 := by decide
      omega
    have h := dec_loop 20 n (decide (n < 0)) ⟨#[]⟩ hz hd h0 h1 (by decide)
    have e : (if decide (n < 0) = true then (⟨#[45]⟩ : ByteArray) ++ (DD n.natAbs ++ ⟨#[]⟩) else DD n.natAbs ++ ⟨#[]⟩) = DT n := by
      have e0 : DD n.natAbs ++ (⟨#[]⟩ : ByteArray) = DD n.natAbs := by
        apply data_inj
        rw [app_data']
        simp
      rw [e0]
      by_cases hn : n < 0
      · rw [if_pos (decide_eq_true hn)]
        apply data_inj
        rw [app_data', DD_list]
        show _ = (Lib.itoa n).toArray.toList
        unfold Lib.itoa
        rw [if_pos hn]
        rfl
      · rw [if_neg (by simp [hn])]
        apply data_inj
        rw [DD_list]
        show _ = (Lib.itoa n).toArray.toList
        unfold Lib.itoa
        rw [if_neg hn, show n.natAbs = n.toNat by omega]
    rw [e] at h
    exact Ev.congr (fun k => by rw [if_neg hz]) h

theorem Ev.uniq {α : Type} {g : Nat → Option α} {r r' : α} (h : Ev g r) (h' : Ev g r') : r = r' := by
  obtain ⟨K, hK⟩ := h
  obtain ⟨K', hK'⟩ := h'
  have a := hK (max K K') (Nat.le_max_left _ _)
  rw [hK' (max K K') (Nat.le_max_right _ _)] at a
  exact (Option.some.inj a).symm

/-- The number that decimal digits spell. -/
def dval (a : Nat) : List UInt8 → Nat
  | [] => a
  | c :: r => dval (10 * a + (c.toNat - 48)) r
def digit (c : UInt8) : Prop := 48 ≤ c.toNat ∧ c.toNat ≤ 57
instance (c : UInt8) : Decidable (digit c) := by unfold digit; infer_instance
theorem dval_app (l r : List UInt8) : ∀ a, dval a (l ++ r) = dval (dval a l) r := by
  induction l with
  | nil => intro a; rfl
  | cons c l ih => intro a; exact ih _
theorem dig_facts (u : Nat) : (∀ c ∈ Lib.decDigits u, digit c) ∧ dval 0 (Lib.decDigits u) = u ∧ Lib.decDigits u ≠ [] := by
  induction u using Nat.strongRecOn with
  | _ u ih =>
    unfold Lib.decDigits
    by_cases h : u < 10
    · rw [dif_pos h]
      have e : (UInt8.ofNat (48 + u)).toNat = 48 + u := by rw [UInt8.toNat_ofNat']; omega
      refine ⟨fun c hc => ?_, ?_, by simp⟩
      · rw [List.mem_singleton.1 hc]
        unfold digit
        rw [e]
        clear e ih
        omega
      · show 10 * 0 + ((UInt8.ofNat (48 + u)).toNat - 48) = u
        rw [e, Nat.mul_zero, Nat.zero_add, Nat.add_sub_cancel_left]
    · rw [dif_neg h]
      obtain ⟨h1, h2, h3⟩ := ih (u / 10) (by omega)
      have e : (UInt8.ofNat (48 + u % 10)).toNat = 48 + u % 10 := by rw [UInt8.toNat_ofNat']; omega
      refine ⟨fun c hc => ?_, ?_, by simp⟩
      · rcases List.mem_append.1 hc with hc | hc
        · exact h1 c hc
        · rw [List.mem_singleton.1 hc]
          unfold digit
          rw [e]
          clear e ih h1 h2
          omega
      · rw [dval_app, h2]
        show 10 * (u / 10) + ((UInt8.ofNat (48 + u % 10)).toNat - 48) = u
        rw [e, Nat.add_sub_cancel_left]
        exact Nat.div_add_mod u 10
theorem dig_len (d : Nat) : ∀ u, u < 10 ^ (d + 1) → (Lib.decDigits u).length ≤ d + 1 := by
  induction d with
  | zero =>
    intro u h
    unfold Lib.decDigits
    rw [dif_pos (by simpa using h)]
    simp
  | succ d ih =>
    intro u h
    unfold Lib.decDigits
    by_cases h10 : u < 10
    · rw [dif_pos h10]; simp
    · rw [dif_neg h10, List.length_append]
      have := ih (u / 10) (by rw [Nat.pow_succ] at h; omega)
      simp only [List.length_singleton]
      omega
theorem parse_digits (l : List UInt8) (hd : ∀ c ∈ l, digit c) : ∀ a, dval a l ≤ 1000000000 → Lib.parseUint10 a l = .ok (dval a l) := by
  have mono : ∀ (l : List UInt8) a, a ≤ dval a l := by
    intro l
    induction l with
    | nil => intro a; exact Nat.le_refl _
    | cons c r ih => intro a; exact Nat.le_trans (by omega) (ih (10 * a + (c.toNat - 48)))
  induction l with
  | nil => intro a _; rfl
  | cons c r ih =>
    intro a h
    have hc := hd c List.mem_cons_self
    have hm := mono r (10 * a + (c.toNat - 48))
    have h' : dval (10 * a + (c.toNat - 48)) r ≤ 1000000000 := h
    have hc' : 48 ≤ c.toNat ∧ c.toNat ≤ 57 := hc
    simp only [Lib.parseUint10]
    rw [if_pos hc', if_neg (by omega), if_neg (by omega), show a * 10 + (c.toNat - 48) = 10 * a + (c.toNat - 48) by omega, ih (fun x hx => hd x (List.mem_cons_of_mem _ hx)) _ h']
    rfl
/-- The number that the text is the decimal numeral of, within the limits. -/
def Num (s : ByteArray) (m : Int) : Prop := 0 ≤ m ∧ m ≤ 1000000000 ∧ DT m = s
theorem DT_list (m : Int) (h : 0 ≤ m) : (DT m).data.toList = Lib.decDigits m.toNat := by
  show (Lib.itoa m).toArray.toList = _
  unfold Lib.itoa
  rw [if_neg (by omega)]
theorem num_facts {s : ByteArray} {m : Int} (h : Num s m) : (∀ c ∈ s.data.toList, digit c) ∧ dval 0 s.data.toList = m.toNat ∧ s.data.toList ≠ [] ∧ s.size ≤ 10 := by
  obtain ⟨h0, h1, rfl⟩ := h
  rw [DT_list m h0]
  obtain ⟨a, b, c⟩ := dig_facts m.toNat
  refine ⟨a, b, c, ?_⟩
  have hl := dig_len 9 m.toNat (by have : (10 : Nat) ^ (9 + 1) = 10000000000 := by decide
                                   omega)
  have e : (DT m).size = (DT m).data.toList.length := by rw [Array.length_toList]; rfl
  rw [e, DT_list m h0]
  exact hl
/-- What both ReadDecimals answer. -/
noncomputable def RDec (s : ByteArray) : Int × Bool := match Lib.atoiAll s.data.toList with
  | .ok v => if 0 ≤ v ∧ v ≤ 1000000000 ∧ DT v = s then (v, true) else (0, false)
  | _ => (0, false)
theorem RDec_num {s : ByteArray} {m : Int} (h : Num s m) : RDec s = (m, true) := by
  obtain ⟨hd, hv, hne, _⟩ := num_facts h
  have hm := h
  obtain ⟨h0, h1, _⟩ := h
  have ha : Lib.atoiAll s.data.toList = .ok m := by
    cases hs : s.data.toList with
    | nil => exact absurd hs hne
    | cons c r =>
      have hc : digit c := hd c (by rw [hs]; exact List.mem_cons_self)
      unfold digit at hc
      have hp := parse_digits s.data.toList hd 0 (by rw [hv]; omega)
      rw [hv, hs] at hp
      unfold Lib.atoiAll
      simp only
      rw [if_neg (by omega)]
      unfold Lib.parseMag
      rw [if_neg (by simp), hp]
      simp only
      rw [if_neg (by omega), if_neg (by omega), if_neg (by omega)]
      congr 1
      omega
  unfold RDec
  rw [ha]
  exact if_pos hm
theorem RDec_no {s : ByteArray} (h : ∀ m, ¬ Num s m) : RDec s = (0, false) := by
  unfold RDec
  cases Lib.atoiAll s.data.toList with
  | ok v => exact if_neg (fun q => h v q)
  | «syntax» => rfl
  | range => rfl
/-- How the reference ends, once all is read. -/
theorem spec_end (s : ByteArray) (n : Nat) (hn : n < 100000000000) (i : Int) (hi : ¬ i < (s.size : Int)) : Ev (fun k => spec_ReadDecimal.l0 k s (n : Int) i) (if (n : Int) ≤ 1000000000 ∧ (DT (n : Int)).toList = s.toList then ((n : Int), true) else (0, false)) := by
  by_cases h : (n : Int) > 1000000000
  · rw [if_neg (by omega)]
    exact Ev.last fun k => by simp only [spec_ReadDecimal.l0]; rw [if_neg hi, if_pos h]
  · refine Ev.step (f := fun k => (spec_Decimal.f k (n : Int)).bind fun t => if t.toList = s.toList then some ((n : Int), true) else some (0, false)) (fun k => by simp only [spec_ReadDecimal.l0]; rw [if_neg hi, if_neg h]) (Ev.bind (dec_ev (n : Int) (by omega) (by omega)) (Ev.now' fun _ => ?_))
    by_cases e : (DT (n : Int)).toList = s.toList
    · rw [if_pos e, if_pos ⟨by omega, e⟩]
    · rw [if_neg e, if_neg (fun q => e q.2)]
theorem bt_at_list (s : ByteArray) (i : Nat) (h : i < s.size) : ∃ c, s.data.toList[i]? = some c ∧ bt s (i : Int) = (c.toNat : Int) := by
  have hl : i < s.data.toList.length := by rw [Array.length_toList]; exact h
  refine ⟨_, List.getElem?_eq_getElem hl, ?_⟩
  unfold bt
  rw [dif_pos (by rw [Int.toNat_natCast]; exact h)]
  simp only [Int.toNat_natCast]
  rfl
theorem spec_step (s : ByteArray) (i n c : Nat) (hi : i < s.size) (hs : s.size ≤ 10) (hn : n ≤ 10000000000) (hb : bt s (i : Int) = (c : Int)) (hc : 48 ≤ c ∧ c ≤ 57) (k : Nat) : spec_ReadDecimal.l0 (k + 1) s (n : Int) (i : Int) = spec_ReadDecimal.l0 k s ((10 * n + (c - 48) : Nat) : Int) ((i + 1 : Nat) : Int) := by
  have p1 : (i : Int) < (s.size : Int) := by omega
  have p2 : ¬ (c : Int) < 48 := by omega
  have p3 : ¬ (c : Int) > 57 := by omega
  have a0 : -9223372036854775808 ≤ 10 * (n : Int) := by omega
  have a1 : 10 * (n : Int) ≤ 9223372036854775807 := by omega
  have b0 : -9223372036854775808 ≤ (c : Int) := by omega
  have b1 : (c : Int) ≤ 9223372036854775807 := by omega
  have c0 : -9223372036854775808 ≤ 10 * (n : Int) + c := by omega
  have c1 : 10 * (n : Int) + c ≤ 9223372036854775807 := by omega
  have d0 : -9223372036854775808 ≤ 10 * (n : Int) + c - 48 := by omega
  have d1 : 10 * (n : Int) + c - 48 ≤ 9223372036854775807 := by omega
  have e1 : 10 * (n : Int) + c - 48 = ((10 * n + (c - 48) : Nat) : Int) := by omega
  have f0 : -9223372036854775808 ≤ (i : Int) + 1 := by omega
  have f1 : (i : Int) + 1 ≤ 9223372036854775807 := by omega
  have f2 : (i : Int) + 1 = ((i + 1 : Nat) : Int) := by omega
  have w1 := w64 a0 a1
  have w2 := w64 b0 b1
  have w3 := w64 c0 c1
  have w4 := (w64 d0 d1).trans e1
  have w5 := (w64 f0 f1).trans f2
  simp only [spec_ReadDecimal.l0, hb, if_pos p1, if_pos (Int.natCast_nonneg i), if_neg p2, if_neg p3, w1, w2, w3, w4, w5]
theorem spec_stop (s : ByteArray) (i n c : Nat) (hi : i < s.size) (hs : s.size ≤ 10) (hb : bt s (i : Int) = (c : Int)) (hc : ¬ (48 ≤ c ∧ c ≤ 57)) (k : Nat) : spec_ReadDecimal.l0 (k + 1) s (n : Int) (i : Int) = some (0, false) := by
  have p1 : (i : Int) < (s.size : Int) := by omega
  simp only [spec_ReadDecimal.l0, hb, if_pos p1, if_pos (Int.natCast_nonneg i)]
  by_cases h48 : (c : Int) < 48
  · rw [if_pos h48]
  · rw [if_neg h48, if_pos (by omega)]
theorem spec_loop (s : ByteArray) (hs : s.size ≤ 10) (d : Nat) : ∀ (i n : Nat), i ≤ s.size → s.size - i = d → n < 10 ^ i → Ev (fun k => spec_ReadDecimal.l0 k s (n : Int) (i : Int)) (if ∀ c ∈ s.data.toList.drop i, digit c then (if (dval n (s.data.toList.drop i) : Int) ≤ 1000000000 ∧ (DT (dval n (s.data.toList.drop i) : Int)).toList = s.toList then ((dval n (s.data.toList.drop i) : Int), true) else (0, false)) else (0, false)) := by
  have hlen : s.data.toList.length = s.size := by rw [Array.length_toList]; rfl
  have pw : ∀ i, i ≤ 10 → (10 : Nat) ^ i ≤ 10000000000 := fun i hi => Nat.le_trans (Nat.pow_le_pow_right (by decide) hi) (by decide)
  induction d with
  | zero =>
    intro i n hi hd hn
    rw [List.drop_of_length_le (by omega), if_pos (by simp)]
    have := pw i (by omega)
    exact spec_end s n (by omega) i (by omega)
  | succ d ih =>
    intro i n hi hd hn
    obtain ⟨c, hc, hb⟩ := bt_at_list s i (by omega)
    have hcl := c.toNat_lt
    have hdr : s.data.toList.drop i = c :: s.data.toList.drop (i + 1) := by
      have hlt : i < s.data.toList.length := by omega
      rw [List.drop_eq_getElem_cons hlt]
      rw [List.getElem?_eq_getElem hlt] at hc
      rw [Option.some.inj hc]
    have hp := pw i (by omega)
    rw [hdr]
    by_cases hg : digit c
    · have hg' := hg
      unfold digit at hg'
      have hih := ih (i + 1) (10 * n + (c.toNat - 48)) (by omega) (by omega) (by rw [Nat.pow_succ]; omega)
      have e1 : (∀ x ∈ c :: s.data.toList.drop (i + 1), digit x) ↔ (∀ x ∈ s.data.toList.drop (i + 1), digit x) := by
        simp only [List.mem_cons, forall_eq_or_imp, hg, true_and]
      have e2 : dval n (c :: s.data.toList.drop (i + 1)) = dval (10 * n + (c.toNat - 48)) (s.data.toList.drop (i + 1)) := rfl
      simp only [e1, e2]
      refine Ev.step (fun k => ?_) hih
      exact spec_step s i n c.toNat (by omega) hs (by omega) hb hg' k
    · rw [if_neg (fun q => hg (q c List.mem_cons_self))]
      unfold digit at hg
      exact Ev.last fun k => spec_stop s i n c.toNat (by omega) hs hb hg k
theorem spec_readdecimal (s : ByteArray) : Ev (fun k => spec_ReadDecimal.f k s) (RDec s) := by
  unfold spec_ReadDecimal.f
  by_cases hs : (s.size : Int) > 10
  · rw [RDec_no (fun m hm => by have := (num_facts hm).2.2.2; omega)]
    exact Ev.now' fun _ => by rw [if_pos hs]
  · have h := spec_loop s (by omega) s.size 0 0 (by omega) (by omega) (by decide)
    rw [List.drop_zero] at h
    have e : (if ∀ c ∈ s.data.toList, digit c then (if (dval 0 s.data.toList : Int) ≤ 1000000000 ∧ (DT (dval 0 s.data.toList : Int)).toList = s.toList then ((dval 0 s.data.toList : Int), true) else (0, false)) else (0, false)) = RDec s := by
      by_cases hm : ∃ m, Num s m
      · obtain ⟨m, hm⟩ := hm
        obtain ⟨hd, hv, _, _⟩ := num_facts hm
        rw [RDec_num hm, if_pos hd, hv]
        have hm' := hm
        obtain ⟨h0, h1, h2⟩ := hm'
        have e : ((m.toNat : Nat) : Int) = m := by omega
        rw [e, if_pos ⟨h1, by rw [h2]⟩]
      · have hno : ∀ m, ¬ Num s m := fun m q => hm ⟨m, q⟩
        rw [RDec_no hno]
        by_cases hd : ∀ c ∈ s.data.toList, digit c
        · rw [if_pos hd, if_neg (fun q => hno _ ⟨by omega, q.1, toList_inj q.2⟩)]
        · rw [if_neg hd]
    rw [e] at h
    exact Ev.congr (fun k => by rw [if_neg hs]; rfl) h
end Go.Proofs.YtmkcpkhhlbmgcaaDoor.Pure
