/- FnExactPartsOf: for every line the program's PartsOf answers what the reference's does, in new memory; the listed variables start as the program's text lays them. -/
import Derived.Test.YtmkcpkhhlbmgcaaDoorPFnExactPartsOfx3
import Derived.Test.YtmkcpkhhlbmgcaaDoorAid
import Derived.Lib.SplitLaws
import Derived.Lib.IndexLaws
import Derived.Lib.IndexBytes
namespace Go.Proofs.YtmkcpkhhlbmgcaaDoor.Pure
open Go.RowKit Go.Proofs.YtmkcpkhhlbmgcaaDoor.PFnExactPartsOf Go.Proofs.YtmkcpkhhlbmgcaaDoorW.PrintWords Go.Proofs.YtmkcpkhhlbmgcaaDoorW.PrintLast Go.Proofs.YtmkcpkhhlbmgcaaDoorW.PrintMore Go.Proofs.YtmkcpkhhlbmgcaaDoor.Aid
set_option linter.unusedVariables false
set_option linter.unusedSimpArgs false

theorem within_eq (a b c : Int) : impl_within.f a b c = some (decide (b ≤ a ∧ a ≤ c)) := by
  unfold impl_within.f
  by_cases h : a ≥ b
  · rw [if_pos h]
    simp [show b ≤ a from h]
  · rw [if_neg h]
    simp [show ¬ b ≤ a from h]

/-- The words of a line: what stands between blanks, where it is not empty; 'cur' is the word begun. -/
def words (cur : List UInt8) : List UInt8 → List (List UInt8)
  | [] => if cur = [] then [] else [cur]
  | c :: r => if c = 32 then (if cur = [] then words [] r else cur :: words [] r) else words (cur ++ [c]) r
theorem words_free (p : List UInt8) (hp : ∀ c ∈ p, c ≠ 32) (r : List UInt8) : ∀ cur, words cur (p ++ r) = words (cur ++ p) r := by
  induction p with
  | nil => intro cur; simp
  | cons c p ih =>
    intro cur
    have hc := hp c List.mem_cons_self
    rw [List.cons_append]
    show (if c = 32 then _ else words (cur ++ [c]) (p ++ r)) = _
    rw [if_neg hc, ih (fun x hx => hp x (List.mem_cons_of_mem _ hx))]
    simp
def mkB (p : List UInt8) : ByteArray := ⟨p.toArray⟩
theorem mkB_list (p : List UInt8) : (mkB p).data.toList = p := by simp [mkB]
theorem data_inj2 {a b : ByteArray} (h : a.data.toList = b.data.toList) : a = b := toList_inj (by rw [Go.Lib.toList_data, Go.Lib.toList_data, h])
theorem mkB_of (s : ByteArray) : mkB s.data.toList = s := data_inj2 (mkB_list _)
theorem mkB_empty (p : List UInt8) : (mkB p).toList = ([] : List UInt8) ↔ p = [] := by rw [Go.Lib.toList_data, mkB_list]
/-- A blank as a text. -/
def sp : ByteArray := ⟨#[32]⟩
theorem sp_list : sp.data.toList = [32] := rfl
/-- What is left of a split at blanks without the empty pieces: the words. -/
theorem split_words (k : Nat) : ∀ s : ByteArray, Lib.countB s sp = k → (Lib.splitB sp 0 k s).filter (fun p => !decide (p.toList = ([] : List UInt8))) = (words [] s.data.toList).map mkB := by
  have one : ∀ s : ByteArray, (∀ c ∈ s.data.toList, c ≠ 32) → ([s] : List ByteArray).filter (fun p => !decide (p.toList = ([] : List UInt8))) = (words [] s.data.toList).map mkB := fun s h => by
    have e := words_free s.data.toList h [] []
    rw [List.append_nil, List.nil_append] at e
    rw [e]
    unfold words
    by_cases he : s.data.toList = []
    · rw [if_pos he]
      have e2 : s.toList = ([] : List UInt8) := by rw [Go.Lib.toList_data]; exact he
      simp [e2]
    · rw [if_neg he]
      have e2 : ¬ s.toList = ([] : List UInt8) := by rw [Go.Lib.toList_data]; exact he
      simp [e2, mkB_of]
  have free : ∀ s : ByteArray, Lib.indexB s sp = -1 → ∀ c ∈ s.data.toList, c ≠ 32 := fun s h c hc => by
    have h' : Lib.indexByte s.data.toList 32 = -1 := by rw [← Lib.index_one]; exact h
    obtain ⟨j, hj, e⟩ := List.mem_iff_getElem.1 hc
    intro e32
    exact Lib.indexByte_none h' j (by rw [List.getElem?_eq_getElem hj, e, e32])
  induction k with
  | zero =>
    intro s hk
    rcases Lib.indexB_cases s sp with h | ⟨i, h, hroom⟩
    · rw [Lib.splitB_zero]
      exact one s (free s h)
    · have := Lib.countB_hit s sp i (by decide) h
      omega
  | succ k ih =>
    intro s hk
    rcases Lib.indexB_cases s sp with h | ⟨i, h, hroom⟩
    · rw [Lib.countB_miss s sp h] at hk
      omega
    · have h1 : sp.size = 1 := rfl
      have hc := Lib.countB_hit s sp i (by decide) h
      rw [h1] at hc
      rw [Lib.splitB_hit sp 0 k s i h, h1, Nat.add_zero]
      have hrest := ih (s.extract (i + 1) s.size) (by omega)
      have h' : Lib.indexByte s.data.toList 32 = (i : Int) := by rw [← Lib.index_one]; exact h
      obtain ⟨hat, hbef⟩ := Lib.indexByte_some h'
      have hlen : s.data.toList.length = s.size := by rw [Array.length_toList]; rfl
      have hil : i < s.data.toList.length := by omega
      have er : (s.extract (i + 1) s.size).data.toList = s.data.toList.drop (i + 1) := by
        rw [Go.Lib.extract_data, List.take_of_length_le (by rw [List.length_drop]; omega)]
      have ep : (s.extract 0 i).data.toList = s.data.toList.take i := by
        rw [Go.Lib.extract_data, List.drop_zero, Nat.sub_zero]
      have esplit : s.data.toList = s.data.toList.take i ++ (32 :: s.data.toList.drop (i + 1)) := by
        have e1 : s.data.toList.drop i = 32 :: s.data.toList.drop (i + 1) := by
          rw [List.drop_eq_getElem_cons hil]
          rw [List.getElem?_eq_getElem hil] at hat
          rw [Option.some.inj hat]
        rw [← e1, List.take_append_drop]
      have hfree : ∀ c ∈ s.data.toList.take i, c ≠ 32 := fun c hc e => by
        obtain ⟨j, hj, e2⟩ := List.mem_iff_getElem.1 hc
        have hji : j < i := by rw [List.length_take] at hj; omega
        refine hbef j hji ?_
        rw [List.getElem_take] at e2
        rw [List.getElem?_eq_getElem (by omega), e2, e]
      rw [er] at hrest
      have ew : words [] s.data.toList = (if s.data.toList.take i = [] then words [] (s.data.toList.drop (i + 1)) else s.data.toList.take i :: words [] (s.data.toList.drop (i + 1))) := by
        conv => lhs; rw [esplit]
        rw [words_free _ hfree, List.nil_append]
        show (if (32 : UInt8) = 32 then _ else _) = _
        rw [if_pos rfl]
      rw [ew, List.filter_cons]
      by_cases he : s.data.toList.take i = []
      · have e2 : (s.extract 0 i).toList = ([] : List UInt8) := by rw [Go.Lib.toList_data, ep]; exact he
        rw [if_neg (by simp [e2]), if_pos he]
        exact hrest
      · have e2 : ¬ (s.extract 0 i).toList = ([] : List UInt8) := by rw [Go.Lib.toList_data, ep]; exact he
        rw [if_pos (by simp [e2]), if_neg he, List.map_cons, hrest, ← ep, mkB_of]
theorem words_len (l : List UInt8) : ∀ cur, (words cur l).length ≤ l.length + 1 := by
  induction l with
  | nil =>
    intro cur
    unfold words
    split <;> simp
  | cons c r ih =>
    intro cur
    unfold words
    split
    · split
      · have := ih []
        simp only [List.length_cons]
        omega
      · have := ih []
        simp only [List.length_cons]
        omega
    · have := ih (cur ++ [c])
      simp only [List.length_cons]
      omega
/-- How both end. -/
def poEnd (l : List ByteArray) : List ByteArray × Bool := if (l.length : Int) > 10 then ([], false) else (l, true)
/-- Whether all bytes from i on may stand in a line. -/
def fine (s : ByteArray) (i : Nat) : Prop := ∀ j, i ≤ j → j < s.size → 32 ≤ bt s (j : Int) ∧ bt s (j : Int) ≤ 126
noncomputable instance (s : ByteArray) (i : Nat) : Decidable (fine s i) := Classical.propDecidable _
theorem fine_succ {s : ByteArray} {i : Nat} (h : 32 ≤ bt s (i : Int) ∧ bt s (i : Int) ≤ 126) : fine s i ↔ fine s (i + 1) := ⟨fun q j hj => q j (by omega), fun q j hj hj' => by
  by_cases e : j = i
  · rw [e]; exact h
  · exact q j (by omega) hj'⟩
/-- What both PartsOfs answer. -/
noncomputable def PO (s : ByteArray) : List ByteArray × Bool := if s.size > 600 then ([], false) else if fine s 0 then poEnd ((words [] s.data.toList).map mkB) else ([], false)
theorem po_l1 (ps : List ByteArray) (hl : ps.length ≤ 100000) (d : Nat) : ∀ (acc : List ByteArray) (i : Nat), i ≤ ps.length → ps.length - i = d → acc.length + d ≤ 100000 → Ev (fun k => impl_PartsOf.l1 k acc ps (ps.length : Int) (i : Int)) (poEnd (acc ++ (ps.drop i).filter (fun p => !decide (p.toList = ([] : List UInt8))))) := by
  induction d with
  | zero =>
    intro acc i hi hd ha
    rw [List.drop_of_length_le (by omega), List.filter_nil, List.append_nil]
    refine Ev.last fun k => ?_
    simp only [impl_PartsOf.l1]
    rw [if_neg (by omega)]
    unfold poEnd
    split <;> rfl
  | succ d ih =>
    intro acc i hi hd ha
    have hlt : i < ps.length := by omega
    have f1 : (i : Int) + 1 = ((i + 1 : Nat) : Int) := by omega
    have hw : wrap64 ((i : Int) + 1) = ((i + 1 : Nat) : Int) := (w64 (by omega) (by omega)).trans f1
    have e0 : rdOf ByteArray.empty ps (i : Int) = ps.getD i ByteArray.empty := rfl
    have hdr : ps.drop i = ps.getD i ByteArray.empty :: ps.drop (i + 1) := by
      rw [List.drop_eq_getElem_cons hlt, List.getD_eq_getElem?_getD, List.getElem?_eq_getElem hlt]
      rfl
    rw [hdr, List.filter_cons]
    by_cases he : (ps.getD i ByteArray.empty).toList = ([] : List UInt8)
    · rw [if_neg (by rw [decide_eq_true he]; decide)]
      refine Ev.step (fun k => ?_) (ih acc (i + 1) (by omega) (by omega) (by omega))
      simp only [impl_PartsOf.l1, e0, hw]
      rw [if_pos (by omega), if_pos (by omega), if_pos (by omega), if_pos he]
    · rw [if_pos (by rw [decide_eq_false he]; rfl)]
      have h := ih (acc ++ [ps.getD i ByteArray.empty]) (i + 1) (by omega) (by omega) (by rw [List.length_append, List.length_singleton]; omega)
      rw [List.append_assoc] at h
      refine Ev.step (fun k => ?_) h
      simp only [impl_PartsOf.l1, e0, hw]
      rw [if_pos (by omega), if_pos (by omega), if_pos (by omega), if_neg he, if_pos (by omega)]
theorem impl_end_po (s : ByteArray) (hs : s.size ≤ 600) (i : Int) (hi : ¬ i < (s.size : Int)) : Ev (fun k => impl_PartsOf.l0 k s [] i) (poEnd ((words [] s.data.toList).map mkB)) := by
  have hsplit : strings_Split.f s (⟨#[32]⟩ : ByteArray) = some (Lib.splitB sp 0 (Lib.countB s sp) s) := by
    unfold strings_Split.f
    rw [if_pos ⟨by omega, by decide⟩]
    rfl
  have hlen : (Lib.splitB sp 0 (Lib.countB s sp) s).length = Lib.countB s sp + 1 := Lib.splitB_all sp (by decide) 0 _ s rfl
  have hc := Lib.countB_le sp (by decide) s.size s (Nat.le_refl _)
  have h := po_l1 (Lib.splitB sp 0 (Lib.countB s sp) s) (by omega) _ [] 0 (Nat.zero_le _) rfl (by simp; omega)
  rw [List.drop_zero, List.nil_append, split_words _ s rfl] at h
  refine Ev.step (fun k => ?_) h
  simp only [impl_PartsOf.l0]
  rw [if_neg hi, hsplit]
  rfl
theorem impl_loop_po (s : ByteArray) (hs : s.size ≤ 600) (d : Nat) : ∀ i : Nat, i ≤ s.size → s.size - i = d → Ev (fun k => impl_PartsOf.l0 k s [] (i : Int)) (if fine s i then poEnd ((words [] s.data.toList).map mkB) else ([], false)) := by
  induction d with
  | zero =>
    intro i hi hd
    have hf : fine s i := fun j hj hj' => by omega
    rw [if_pos hf]
    exact impl_end_po s hs i (by omega)
  | succ d ih =>
    intro i hi hd
    have f1 : (i : Int) + 1 = ((i + 1 : Nat) : Int) := by omega
    have hw : wrap64 ((i : Int) + 1) = ((i + 1 : Nat) : Int) := (w64 (by omega) (by omega)).trans f1
    have hb := bt_range s (i : Int)
    have hwb : wrap64 (bt s (i : Int)) = bt s (i : Int) := w64 (by omega) (by omega)
    by_cases hg : 32 ≤ bt s (i : Int) ∧ bt s (i : Int) ≤ 126
    · have e : (if fine s i then poEnd ((words [] s.data.toList).map mkB) else ([], false)) = (if fine s (i + 1) then poEnd ((words [] s.data.toList).map mkB) else ([], false)) := by
        by_cases hf : fine s (i + 1)
        · rw [if_pos hf, if_pos ((fine_succ hg).2 hf)]
        · rw [if_neg hf, if_neg (fun q => hf ((fine_succ hg).1 q))]
      rw [e]
      refine Ev.step (fun k => ?_) (ih (i + 1) (by omega) (by omega))
      simp only [impl_PartsOf.l0, within_eq, Option.bind_some, hwb, hw, decide_eq_true hg, if_true]
      rw [if_pos (by omega), if_pos (by omega)]
    · have hf : ¬ fine s i := fun q => hg (q i (Nat.le_refl _) (by omega))
      rw [if_neg hf]
      refine Ev.last fun k => ?_
      simp only [impl_PartsOf.l0, within_eq, Option.bind_some, hwb, decide_eq_false hg]
      rw [if_pos (by omega), if_pos (by omega)]
      rfl
theorem impl_partsof (s : ByteArray) : Ev (fun k => impl_PartsOf.f k s) (PO s) := by
  unfold impl_PartsOf.f PO
  by_cases h : s.size > 600
  · rw [if_pos h]
    exact Ev.now' fun _ => by rw [if_pos (by omega)]
  · rw [if_neg h]
    exact Ev.congr (fun k => by rw [if_neg (by omega)]; rfl) (impl_loop_po s (by omega) s.size 0 (Nat.zero_le _) rfl)
theorem bt_list_po (s : ByteArray) (i : Nat) (h : i < s.size) : ∃ c, s.data.toList.drop i = c :: s.data.toList.drop (i + 1) ∧ bt s (i : Int) = (c.toNat : Int) := by
  have hl : i < s.data.toList.length := by rw [Array.length_toList]; exact h
  refine ⟨_, List.drop_eq_getElem_cons hl, ?_⟩
  unfold bt
  rw [dif_pos (by rw [Int.toNat_natCast]; exact h)]
  simp only [Int.toNat_natCast]
  rfl
/-- The word begun: from b to i. -/
def curW (s : ByteArray) (b i : Nat) : List UInt8 := (s.data.toList.drop b).take (i - b)
theorem curW_ext (s : ByteArray) (b i : Nat) : s.extract b i = mkB (curW s b i) := data_inj2 (by rw [Go.Lib.extract_data, mkB_list]; rfl)
theorem curW_nil (s : ByteArray) (b i : Nat) (hb : b ≤ i) (hi : i ≤ s.size) : curW s b i = [] ↔ b = i := by
  have hlen : s.data.toList.length = s.size := by rw [Array.length_toList]; rfl
  unfold curW
  rw [← List.length_eq_zero_iff, List.length_take, List.length_drop]
  omega
theorem curW_snoc (s : ByteArray) (b i : Nat) (hb : b ≤ i) (hi : i < s.size) (c : UInt8) (hc : s.data.toList.drop i = c :: s.data.toList.drop (i + 1)) : curW s b (i + 1) = curW s b i ++ [c] := by
  have hlen : s.data.toList.length = s.size := by rw [Array.length_toList]; rfl
  unfold curW
  rw [show i + 1 - b = (i - b) + 1 by omega, List.take_succ_eq_append_getElem (by rw [List.length_drop]; omega)]
  congr 1
  have hl : i < s.data.toList.length := by omega
  rw [List.drop_eq_getElem_cons hl] at hc
  have hc1 := (List.cons.inj hc).1
  rw [← hc1, List.getElem_drop]
  congr 1
  congr 1
  omega
theorem spec_end_po (s : ByteArray) (acc : List ByteArray) (b : Int) (i : Nat) (hi : ¬ (i : Int) ≤ (s.size : Int)) : Ev (fun k => spec_PartsOf.l0 k s acc b (i : Int)) (poEnd acc) := Ev.last fun k => by
  simp only [spec_PartsOf.l0]
  rw [if_neg hi]
  unfold poEnd
  split <;> rfl
theorem spec_j2_po (s : ByteArray) (hs : s.size ≤ 600) (acc : List ByteArray) (b i : Nat) (hb : b ≤ i) (hi : i ≤ s.size) (ha : acc.length ≤ 1000) (R : List ByteArray × Bool) (h0 : b = i → Ev (fun k => spec_PartsOf.l0 k s acc ((i + 1 : Nat) : Int) ((i + 1 : Nat) : Int)) R) (h1 : b ≠ i → Ev (fun k => spec_PartsOf.l0 k s (acc ++ [mkB (curW s b i)]) ((i + 1 : Nat) : Int) ((i + 1 : Nat) : Int)) R) : Ev (fun k => spec_PartsOf.j2 k s acc (b : Int) (i : Int) false) R := by
  have f1 : (i : Int) + 1 = ((i + 1 : Nat) : Int) := by omega
  have hw : wrap64 ((i : Int) + 1) = ((i + 1 : Nat) : Int) := (w64 (by omega) (by omega)).trans f1
  by_cases e : b = i
  · refine Ev.step (fun k => ?_) (h0 e)
    simp only [spec_PartsOf.j2, hw]
    rw [if_neg (by decide), if_neg (by omega)]
  · refine Ev.step (fun k => ?_) (h1 e)
    simp only [spec_PartsOf.j2, hw, Int.toNat_natCast, curW_ext]
    rw [if_neg (by decide), if_pos (by omega), if_pos (by omega), if_pos (by omega), if_pos (by omega), if_pos (by omega)]
theorem spec_loop_po (s : ByteArray) (hs : s.size ≤ 600) (d : Nat) : ∀ (acc : List ByteArray) (b i : Nat), b ≤ i → i ≤ s.size → s.size - i = d → acc.length + d ≤ 700 → Ev (fun k => spec_PartsOf.l0 k s acc (b : Int) (i : Int)) (if fine s i then poEnd (acc ++ (words (curW s b i) (s.data.toList.drop i)).map mkB) else ([], false)) := by
  have hlen : s.data.toList.length = s.size := by rw [Array.length_toList]; rfl
  induction d with
  | zero =>
    intro acc b i hb hi hd ha
    obtain rfl : i = s.size := by omega
    have hf : fine s s.size := fun j hj hj' => by omega
    rw [if_pos hf, List.drop_of_length_le (by omega)]
    have k0 : ∀ k, spec_PartsOf.l0 (k + 1) s acc (b : Int) (s.size : Int) = spec_PartsOf.j1 k s acc (b : Int) (s.size : Int) false := fun k => by
      simp only [spec_PartsOf.l0]
      rw [if_pos (by omega), if_neg (by omega)]
    have k1 : ∀ k, spec_PartsOf.j1 (k + 1) s acc (b : Int) (s.size : Int) false = spec_PartsOf.j2 k s acc (b : Int) (s.size : Int) false := fun k => by
      simp only [spec_PartsOf.j1]
      rw [if_neg (by decide), if_neg (by omega)]
    refine Ev.step k0 (Ev.step k1 (spec_j2_po s hs acc b s.size hb (Nat.le_refl _) (by omega) _ (fun e => ?_) (fun e => ?_)))
    · have ew : words (curW s b s.size) [] = [] := by
        unfold words
        rw [if_pos ((curW_nil s b s.size hb (Nat.le_refl _)).2 e)]
      rw [ew, List.map_nil, List.append_nil]
      exact spec_end_po s acc _ (s.size + 1) (by omega)
    · have ew : words (curW s b s.size) [] = [curW s b s.size] := by
        unfold words
        rw [if_neg (fun q => e ((curW_nil s b s.size hb (Nat.le_refl _)).1 q))]
      rw [ew]
      exact spec_end_po s _ _ (s.size + 1) (by omega)
  | succ d ih =>
    intro acc b i hb hi hd ha
    obtain ⟨c, hc, hbt⟩ := bt_list_po s i (by omega)
    have f1 : (i : Int) + 1 = ((i + 1 : Nat) : Int) := by omega
    have hw : wrap64 ((i : Int) + 1) = ((i + 1 : Nat) : Int) := (w64 (by omega) (by omega)).trans f1
    have hi1 : (i : Int) ≤ (s.size : Int) := by omega
    have hi2 : (i : Int) < (s.size : Int) := by omega
    by_cases hg : 32 ≤ bt s (i : Int) ∧ bt s (i : Int) ≤ 126
    · have k0 : ∀ k, spec_PartsOf.l0 (k + 1) s acc (b : Int) (i : Int) = spec_PartsOf.j1 k s acc (b : Int) (i : Int) false := fun k => by
        simp only [spec_PartsOf.l0]
        rw [if_pos hi1, if_pos hi2, if_pos (by omega), if_neg (by omega), decide_eq_false (by omega)]
      have k1 : ∀ k, spec_PartsOf.j1 (k + 1) s acc (b : Int) (i : Int) false = spec_PartsOf.j2 k s acc (b : Int) (i : Int) ((bt s (i : Int)) != 32) := fun k => by
        simp only [spec_PartsOf.j1]
        rw [if_neg (by decide), if_pos hi2, if_pos (by omega)]
      have hfin : ∀ X : List ByteArray × Bool, (if fine s i then X else ([], false)) = (if fine s (i + 1) then X else ([], false)) := fun X => by
        by_cases hf : fine s (i + 1)
        · rw [if_pos hf, if_pos ((fine_succ hg).2 hf)]
        · rw [if_neg hf, if_neg (fun q => hf ((fine_succ hg).1 q))]
      rw [hfin]
      by_cases h32 : c = 32
      · have hb32 : ((bt s (i : Int)) != 32) = false := by rw [hbt, h32]; rfl
        rw [hb32] at k1
        refine Ev.step k0 (Ev.step k1 (spec_j2_po s hs acc b i hb hi (by omega) _ (fun e => ?_) (fun e => ?_)))
        · have hn := ih acc (i + 1) (i + 1) (Nat.le_refl _) (by omega) (by omega) (by omega)
          have ec : curW s (i + 1) (i + 1) = [] := (curW_nil s _ _ (Nat.le_refl _) (by omega)).2 rfl
          have ew : words (curW s b i) (s.data.toList.drop i) = words [] (s.data.toList.drop (i + 1)) := by
            rw [hc, (curW_nil s b i hb hi).2 e, h32]
            show (if (32 : UInt8) = 32 then _ else _) = _
            rw [if_pos rfl, if_pos rfl]
          rw [ew]
          rw [ec] at hn
          exact hn
        · have hn := ih (acc ++ [mkB (curW s b i)]) (i + 1) (i + 1) (Nat.le_refl _) (by omega) (by omega) (by rw [List.length_append, List.length_singleton]; omega)
          have ec : curW s (i + 1) (i + 1) = [] := (curW_nil s _ _ (Nat.le_refl _) (by omega)).2 rfl
          have ew : words (curW s b i) (s.data.toList.drop i) = curW s b i :: words [] (s.data.toList.drop (i + 1)) := by
            rw [hc, h32]
            show (if (32 : UInt8) = 32 then _ else _) = _
            rw [if_pos rfl, if_neg (fun q => e ((curW_nil s b i hb hi).1 q))]
          rw [ew, List.map_cons]
          rw [ec, List.append_assoc] at hn
          exact hn
      · have hcl := c.toNat_lt
        have hne : c.toNat ≠ 32 := fun q => h32 (UInt8.toNat_inj.1 q)
        have hb32 : ((bt s (i : Int)) != 32) = true := by rw [hbt, bne_iff_ne]; omega
        rw [hb32] at k1
        have hn := ih acc b (i + 1) (by omega) (by omega) (by omega) (by omega)
        have ew : words (curW s b i) (s.data.toList.drop i) = words (curW s b (i + 1)) (s.data.toList.drop (i + 1)) := by
          rw [curW_snoc s b i hb (by omega) c hc]
          conv => lhs; rw [hc]
          show (if c = 32 then _ else _) = _
          rw [if_neg h32]
        rw [ew]
        refine Ev.step k0 (Ev.step k1 (Ev.step (fun k => ?_) hn))
        simp only [spec_PartsOf.j2, hw, if_true]
    · have hf : ¬ fine s i := fun q => hg (q i (Nat.le_refl _) (by omega))
      rw [if_neg hf]
      have k1 : ∀ k, spec_PartsOf.j1 (k + 1) s acc (b : Int) (i : Int) true = some ([], false) := fun k => by
        simp only [spec_PartsOf.j1]
        rfl
      refine Ev.step (f := fun k => spec_PartsOf.j1 k s acc (b : Int) (i : Int) true) (fun k => ?_) (Ev.last k1)
      simp only [spec_PartsOf.l0]
      rw [if_pos hi1, if_pos hi2, if_pos (by omega)]
      by_cases h : bt s (i : Int) < 32
      · rw [if_pos h]
      · rw [if_neg h, decide_eq_true (by omega)]
theorem spec_partsof (s : ByteArray) : Ev (fun k => spec_PartsOf.f k s) (PO s) := by
  unfold spec_PartsOf.f PO
  simp only [Option.bind_some]
  by_cases h : s.size > 600
  · rw [if_pos h]
    exact Ev.now' fun _ => by rw [if_pos (by omega)]
  · rw [if_neg h]
    have hl := spec_loop_po s (by omega) s.size [] 0 0 (Nat.le_refl _) (Nat.zero_le _) rfl (by simp; omega)
    have ec : curW s 0 0 = [] := (curW_nil s 0 0 (Nat.le_refl _) (Nat.zero_le _)).2 rfl
    rw [ec, List.drop_zero, List.nil_append] at hl
    exact Ev.congr (fun k => by rw [if_neg (by omega)]; rfl) hl
theorem PO_len (s : ByteArray) : (PO s).1.length ≤ 1048576 := by
  unfold PO poEnd
  split
  · simp
  · split
    · split
      · simp
      · simp only
        omega
    · simp

theorem laws_eqStringS_loop (l : List (ByteArray)) (hl : l.length ≤ 1048576) (d : Nat) : ∀ (i : Int), 0 ≤ i → i ≤ l.length → (l.length : Int) - i = d → Ev (fun k => laws_eqStringS.l0 k l l i) true := by
  induction d with
  | zero =>
    intro i h0 h1 hd
    exact Ev.last (fun k => by simp only [laws_eqStringS.l0]; rw [if_neg (by omega)])
  | succ d ih =>
    intro i h0 h1 hd
    have hw : wrap64 (i + 1) = i + 1 := w64 (by omega) (by omega)
    refine Ev.step (fun k => ?_) (ih (i + 1) (by omega) (by omega) (by omega))
    simp only [laws_eqStringS.l0]
    rw [if_pos (by omega), if_pos h0, if_pos (by omega), hw]
    simp
theorem laws_eqStringS_refl (l : List (ByteArray)) (hl : l.length ≤ 1048576) : Ev (fun k => laws_eqStringS.f k l l) true := by
  refine Ev.congr (fun k => ?_) (laws_eqStringS_loop l hl l.length 0 (by omega) (by omega) (by omega))
  unfold laws_eqStringS.f
  rw [if_pos rfl]

theorem marktext_loop (d : Nat) : ∀ (x : Int) (s : ByteArray), x < d → 0 ≤ x → s.size + d ≤ 4000000000 → ∃ t, Ev (fun k => laws_markText.l0 k x s) t := by
  induction d with
  | zero => intro x s h h0; omega
  | succ d ih =>
    intro x s h h0 hs
    by_cases hx : x > 0
    · obtain ⟨t, ht⟩ := ih (x / 10) (strOfNums [(wrap64 (48 + (Int.tmod x 10))) % 256] ++ s) (by omega) (by omega) (by rw [ByteArray.size_append, strOfNums_size]; simp; omega)
      refine ⟨t, Ev.step (fun k => ?_) ht⟩
      simp only [laws_markText.l0, Option.bind_some]
      rw [if_pos hx, if_pos (by rw [strOfNums_size]; simp; omega), tdiv_nn h0, w64 (by omega) (by omega)]
    · exact ⟨_, Ev.last (fun k => by simp only [laws_markText.l0]; rw [if_neg hx, if_pos (by omega)])⟩
theorem marktext_some (m : Int) (m1 : m ≤ 1100000000) : ∃ t, Ev (fun k => laws_markText.f k m) t := by
  unfold laws_markText.f
  by_cases h : m ≤ 0
  · exact ⟨_, Ev.now' fun k => by rw [if_pos h]⟩
  · obtain ⟨t, ht⟩ := marktext_loop (m.toNat + 1) m ⟨#[]⟩ (by omega) (by omega) (by simp [ByteArray.size]; omega)
    exact ⟨t, Ev.congr (fun k => by rw [if_neg h]) ht⟩
/-- The text of a mark. -/
noncomputable def mt (m : Int) : ByteArray := @Classical.epsilon ByteArray ⟨⟨#[]⟩⟩ (fun t => Ev (fun k => laws_markText.f k m) t)
theorem mt_ev (m : Int) (m1 : m ≤ 1100000000) : Ev (fun k => laws_markText.f k m) (mt m) := Classical.epsilon_spec (marktext_some m m1)

noncomputable def sm (m : Int) (n : Nat) : List ByteArray := (List.range n).map fun j : Nat => mt (m + (j : Int))
theorem sm_length (m : Int) (n : Nat) : (sm m n).length = n := by simp [sm]
theorem sm_at (m : Int) (n i : Nat) (h : i < n) (d : ByteArray) : (sm m n).getD i d = mt (m + (i : Int)) := by
  unfold sm
  rw [List.getD_eq_getElem?_getD, List.getElem?_map, List.getElem?_range h]
  rfl
theorem markS_loop (m : Int) (n : Nat) (hn : n ≤ 1048576) (m0 : 0 ≤ m) (m1 : m ≤ 1000000000) (d : Nat) : ∀ (x : List ByteArray) (i : Nat), x.length = n → i ≤ n → n - i = d → x.take i = (sm m n).take i → Ev (fun k => laws_markStringS.l0 k x (m + i) (i : Int)) (m + n, sm m n) := by
  induction d with
  | zero =>
    intro x i hx hi hd ht
    obtain rfl : i = n := by omega
    have e : x = sm m i := take_all (by rw [hx, sm_length]) (by rw [sm_length]; exact ht)
    subst e
    exact Ev.last (fun k => by simp only [laws_markStringS.l0]; rw [if_neg (by omega)])
  | succ d ih =>
    intro x i hx hi hd ht
    have hs := set_take (sm m n) x ByteArray.empty i (by rw [sm_length]; omega) (by rw [hx, sm_length]) ht
    rw [sm_at m n i (by omega)] at hs
    refine Ev.step (f := fun k => (laws_markText.f k (m + i)).bind fun t => laws_markStringS.l0 k (x.set i t) (m + ((i + 1 : Nat) : Int)) ((i + 1 : Nat) : Int)) (fun k => ?_) (Ev.bind (mt_ev (m + (i : Int)) (by omega)) (ih (x.set i (mt (m + (i : Int)))) (i + 1) (by rw [List.length_set]; exact hx) (by omega) (by omega) hs))
    simp only [laws_markStringS.l0]
    rw [if_pos (by omega), w64 (x := m + i + 1) (by omega) (by omega), w64 (x := (i : Int) + 1) (by omega) (by omega), Int.toNat_natCast, show m + (i : Int) + 1 = m + ((i + 1 : Nat) : Int) by omega, show (i : Int) + 1 = ((i + 1 : Nat) : Int) by omega]
    simp only [if_pos (show (0 : Int) ≤ (i : Int) by omega)]
theorem markS_ev (l : List ByteArray) (m : Int) (hn : l.length ≤ 1048576) (m0 : 0 ≤ m) (m1 : m ≤ 1000000000) : Ev (fun k => laws_markStringS.f k l m) (m + l.length, sm m l.length) := by
  have h := markS_loop m l.length hn m0 m1 l.length l 0 rfl (by omega) (by omega) (by simp)
  refine Ev.congr (fun k => ?_) h
  unfold laws_markStringS.f
  simp
theorem heldS_loop (m : Int) (n : Nat) (hn : n ≤ 1048576) (m0 : 0 ≤ m) (m1 : m ≤ 1000000000) (d : Nat) : ∀ (i : Nat), i ≤ n → n - i = d → Ev (fun k => laws_heldStringS.l0 k (sm m n) (m + i) (i : Int)) (m + n) := by
  induction d with
  | zero =>
    intro i hi hd
    obtain rfl : i = n := by omega
    exact Ev.last (fun k => by simp only [laws_heldStringS.l0, sm_length]; rw [if_neg (by omega)])
  | succ d ih =>
    intro i hi hd
    have e : rdOf ByteArray.empty (sm m n) (i : Int) = mt (m + (i : Int)) := sm_at m n i (by omega) _
    refine Ev.step (f := fun k => (laws_markText.f k (m + i)).bind fun t => if (mt (m + (i : Int))).toList = t.toList then laws_heldStringS.l0 k (sm m n) (m + ((i + 1 : Nat) : Int)) ((i + 1 : Nat) : Int) else some (-1)) (fun k => ?_) ?_
    · simp only [laws_heldStringS.l0, sm_length, e]
      rw [if_pos (by omega), if_pos (by omega), w64 (x := m + i + 1) (by omega) (by omega), w64 (x := (i : Int) + 1) (by omega) (by omega), show m + (i : Int) + 1 = m + ((i + 1 : Nat) : Int) by omega, show (i : Int) + 1 = ((i + 1 : Nat) : Int) by omega]
    · refine Ev.bind (mt_ev (m + (i : Int)) (by omega)) ?_
      simp only [if_true]
      exact ih (i + 1) (by omega) (by omega)
theorem heldS_ev (m : Int) (n : Nat) (hn : n ≤ 1048576) (m0 : 0 ≤ m) (m1 : m ≤ 1000000000) : Ev (fun k => laws_heldStringS.f k (sm m n) m) (m + n) := by
  have h := heldS_loop m n hn m0 m1 n 0 (by omega) (by omega)
  refine Ev.congr (fun k => ?_) h
  unfold laws_heldStringS.f
  simp

theorem FnExactPartsOf : laws_FnExactPartsOf.Pure := by
  intro s hs
  unfold laws_FnExactPartsOf.f
  by_cases h : (s.size : Int) > 1048576
  · exact ⟨0, by rw [if_pos h]⟩
  · simp only [if_neg h]
    have hl := PO_len s
    have e1 := spec_partsof s
    have e2 := impl_partsof s
    generalize PO s = r at hl e1 e2
    obtain ⟨l, ok⟩ := r
    simp only at hl
    refine Ev.rounds (Ev.bind e1 (Ev.bind e2 (Ev.bind (laws_eqStringS_refl l hl) ?_)))
    simp only [if_true, bne_self_eq_false]
    refine Ev.step (f := fun k => (laws_markStringS.f k l 1).bind fun b => (laws_heldStringS.f k b.2 1).bind fun t => if t < 0 then some false else if t = b.1 then (impl_PartsOf.f k s).bind fun c => (laws_eqStringS.f k c.1 l).bind fun t => if t = true then laws_FnExactPartsOf.j1 k b.2 b.1 (c.2 != ok) else laws_FnExactPartsOf.j1 k b.2 b.1 true else some false) (fun k => by simp only [laws_FnExactPartsOf.j0]; rfl) ?_
    refine Ev.bind (markS_ev l 1 hl (by omega) (by omega)) (Ev.bind (heldS_ev 1 l.length hl (by omega) (by omega)) ?_)
    simp only [if_neg (show ¬ (1 + (l.length : Int)) < 0 by omega), if_true]
    refine Ev.bind e2 (Ev.bind (laws_eqStringS_refl l hl) ?_)
    simp only [if_true, bne_self_eq_false]
    refine Ev.step (f := fun k => (laws_heldStringS.f k (sm 1 l.length) 1).bind fun t => if t < 0 then some false else if t = 1 + (l.length : Int) then some true else some false) (fun k => by simp only [laws_FnExactPartsOf.j1]; rfl) ?_
    refine Ev.bind (heldS_ev 1 l.length hl (by omega) (by omega)) (Ev.now' fun _ => ?_)
    rw [if_neg (by omega), if_pos rfl]
end Go.Proofs.YtmkcpkhhlbmgcaaDoor.Pure
