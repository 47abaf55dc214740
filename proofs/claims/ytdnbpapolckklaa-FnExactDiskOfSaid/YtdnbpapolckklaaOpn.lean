/- General lemmas: an argument that reads as data of a type is, in the print's own words, a value of that type's kind, whose numbers are well formed and whose rows and texts are within the reach. No program in sight. -/
import Derived.Test.YtdnbpapolckklaaWWords
import Derived.Deep.Slices
import Derived.SizedLaws
import Derived.Lib.SmallJoins
namespace Go.Proofs.Ytdnbpapolckklaa.Opn
open Go.ChangeShapes Go.WideShapes Go.RowKit Go.Proofs.YtdnbpapolckklaaW.PrintWords

theorem list_of {α : Type} {p : Nat → α → Prop} : ∀ {n : Nat}, (∀ i, i < n → ∃ x, p i x) → ∃ xs : List α, xs.length = n ∧ ∀ i x, xs[i]? = some x → p i x
  | 0, _ => ⟨[], rfl, fun i x h => by simp at h⟩
  | n + 1, h => by
    obtain ⟨xs, hl, hp⟩ := list_of (n := n) (fun i hi => h i (Nat.lt_succ_of_lt hi))
    obtain ⟨y, hy⟩ := h n (Nat.lt_succ_self n)
    refine ⟨xs ++ [y], by simp [hl], fun i x hx => ?_⟩
    by_cases hi : i < xs.length
    · rw [List.getElem?_append_left hi] at hx
      exact hp i x hx
    · rw [List.getElem?_append_right (by omega)] at hx
      have hz : i - xs.length = 0 := by
        by_cases hz : i - xs.length = 0
        · exact hz
        · rw [List.getElem?_eq_none (by simp; omega)] at hx
          cases hx
      rw [hz] at hx
      simp at hx
      subst hx
      have : i = n := by omega
      subst this
      exact hy

theorem mem_weightsAll {H : Type} {P : Program} {e : TypeId} : ∀ {ds : List (DataW H)} {d : DataW H}, d ∈ ds → ∀ n ∈ d.weights P e, n ∈ DataW.weightsAll P e ds
  | d0 :: ds, d, hd, n, hn => by
    simp only [DataW.weightsAll, List.mem_append]
    rcases List.mem_cons.1 hd with rfl | hd
    · exact Or.inl hn
    · exact Or.inr (mem_weightsAll hd n hn)

/-- A type's kind: what reads as data of the type is a value of the kind. -/
structure Opn {α : Type} (P : Program) (t : TypeId) (d : Kd α) (good : α → Prop) : Prop where
  cells : P.cellsOf t = d.sz
  opens : ∀ {H : Type} {enc : TypeId × Value → H} {w : World} {fuel : Nat} {cs : List Value} {x : DataW H × List MemPlace},
    DataW.trod enc P w 0 (fun _ => true) true fuel t cs = some x → (∀ n ∈ x.1.weights P t, n ≤ reachBytes) → ∃ a, d.K w a cs ∧ good a

theorem opn_int {P : Program} {t : TypeId} {k : IntKind} (ht : P.underlying t = some (.int k)) (hc : P.cellsOf t = 1) : Opn P t (Kd.int k) (fun n => (Lit.int k n).wf = true) :=
  ⟨hc, fun h _ => by
    obtain ⟨n, rfl, rfl, hw⟩ := DataW.trod_int ht h
    exact ⟨n, rfl, hw⟩⟩
theorem opn_bool {P : Program} {t : TypeId} (ht : P.underlying t = some .bool) (hc : P.cellsOf t = 1) : Opn P t Kd.bool (fun _ => True) :=
  ⟨hc, fun h _ => by
    obtain ⟨b, rfl, rfl⟩ := DataW.trod_bool ht h
    exact ⟨b, rfl, trivial⟩⟩
theorem opn_string {P : Program} {t : TypeId} (ht : P.underlying t = some .string) (hc : P.cellsOf t = 1) : Opn P t Kd.string (fun s => s.size ≤ 140737488351232) :=
  ⟨hc, fun h hw => by
    obtain ⟨s, rfl, rfl, _⟩ := DataW.trod_string ht h
    refine ⟨s, rfl, ?_⟩
    have := hw s.data.toList.length (by simp [DataW.weights])
    have e : s.data.toList.length = s.size := data_length s
    rw [e] at this
    exact this⟩
theorem opn_slice {α : Type} {P : Program} {t e : TypeId} {d : Kd α} {good : α → Prop} (ht : P.underlying t = some (.slice e)) (hc : P.cellsOf t = 1) (B : Nat) (hB : P.bytesOf e = B) (h : Opn P e d good) :
    Opn P t (Kd.slice e d) (fun xs => xs.length * B ≤ 140737488351232 ∧ ∀ x ∈ xs, good x) :=
  ⟨hc, fun {H enc w fuel cs x} ho hw => by
    rcases Go.Deep.open_slice ht ho with ⟨rfl, rfl⟩ | ⟨a, len, cap, m, n, D, Pl, rfl, _, hl, hm, hmm, rfl, hx⟩
    · exact ⟨[], ⟨none, 0, rfl, Nat.zero_le _, Kd.C_nil d w⟩, by simp, by simp⟩
    · simp only [if_true] at hmm
      subst hmm
      have hlen : ((List.range len).map D).length = len := by simp
      have hsize : (((List.range len).map D).length + ((List.range (m - len)).map fun j => D (len + j)).length) * P.bytesOf e ≤ reachBytes := hw _ (by simp [DataW.weights, ht])
      have hel : ∀ i, i < len → ∃ y : α, (∃ c, c.length = d.sz ∧ d.K w y c ∧ ∀ j u, c[j]? = some u → w.cell? (a.add (i * d.sz + j)) = some u) ∧ good y := by
        intro i hi
        obtain ⟨cs', h1, h2⟩ := hx i (by omega)
        obtain ⟨_, hlc, hcell⟩ := World.cells?_some h1
        obtain ⟨y, hk, hg⟩ := h.opens h2 (fun z hz => hw z (by
          simp only [DataW.weights, ht, List.mem_cons, List.mem_append]
          exact Or.inr (Or.inl (mem_weightsAll (List.mem_map.2 ⟨i, List.mem_range.2 hi, rfl⟩) z hz))))
        rw [h.cells] at hlc hcell
        refine ⟨y, ⟨cs', hlc, hk, fun j u hu => ?_⟩, hg⟩
        have hj : j < cs'.length := by
          rcases Nat.lt_or_ge j cs'.length with hj | hj
          · exact hj
          · rw [List.getElem?_eq_none hj] at hu
            cases hu
        have := hcell j (by omega)
        rw [Go.Deep.add_add] at this
        exact this.trans hu
      obtain ⟨xs, hxl, hxs⟩ := list_of hel
      refine ⟨xs, ⟨some a, m, by rw [hxl], by omega, rfl, ?_, fun _ => ⟨a, rfl, fun j p hp => (hxs j p hp).1⟩⟩, ?_, fun y hy => ?_⟩
      · unfold maxLen at hm
        omega
      · rw [hB] at hsize
        simp only [List.length_map, List.length_range] at hsize
        rw [hxl]
        exact Nat.le_trans (Nat.mul_le_mul_right _ (Nat.le_add_right _ _)) hsize
      · obtain ⟨i, hi⟩ := List.mem_iff_getElem?.1 hy
        exact (hxs i y hi).2⟩

/-- The fields of a struct from one on. -/
structure OpnF {α : Type} (P : Program) (fs : List Field) (off : Nat) (d : Kd α) (good : α → Prop) : Prop where
  opens : ∀ {H : Type} {enc : TypeId × Value → H} {w : World} {fuel : Nat} {cs : List Value} {xs : List (DataW H × List MemPlace)},
    cs.length = off + d.sz → xs.length = fs.length → (∀ (i : Nat) (f : Field), fs[i]? = some f → DataW.trod enc P w 0 (fun _ => true) true fuel f.type ((cs.drop f.offset).take (P.cellsOf f.type)) = xs[i]?) →
    (∀ n ∈ DataW.weightsEach P (fs.map (·.type)) (xs.map (·.1)), n ≤ reachBytes) → ∃ a, d.K w a (cs.drop off) ∧ good a
theorem opnF_one {α : Type} {P : Program} {f : Field} {off : Nat} {d : Kd α} {good : α → Prop} (hoff : f.offset = off) (h : Opn P f.type d good) : OpnF P [f] off d good :=
  ⟨fun {H enc w fuel cs xs} hl hx ht hw => by
    match xs, hx with
    | [y], _ =>
      have h0 := ht 0 f rfl
      rw [hoff, h.cells, List.take_of_length_le (by simp; omega)] at h0
      exact h.opens h0 (fun n hn => hw n (by simpa [DataW.weightsEach] using hn))⟩
theorem opnF_cons {α β : Type} {P : Program} {f : Field} {fs : List Field} {off : Nat} {d : Kd α} {d' : Kd β} {good : α → Prop} {good' : β → Prop} (hoff : f.offset = off) (h : Opn P f.type d good) (hs : OpnF P fs (off + d.sz) d' good') :
    OpnF P (f :: fs) off (Kd.pair d d') (fun a => good a.1 ∧ good' a.2) :=
  ⟨fun {H enc w fuel cs xs} hl hx ht hw => by
    match xs, hx with
    | y :: xs, hx =>
      have hl' : cs.length = off + (d.sz + d'.sz) := hl
      have h0 := ht 0 f rfl
      rw [hoff, h.cells] at h0
      obtain ⟨a, hk, hg⟩ := h.opens h0 (fun n hn => hw n (by simp only [DataW.weightsEach, List.map_cons, List.mem_append]; exact Or.inl hn))
      obtain ⟨b, hk', hg'⟩ := hs.opens (cs := cs) (xs := xs) (by omega) (by simpa using hx) (fun i f' hf => ht (i + 1) f' (by simpa using hf)) (fun n hn => hw n (by simp only [DataW.weightsEach, List.map_cons, List.mem_append]; exact Or.inr hn))
      refine ⟨(a, b), ⟨_, _, ?_, hk, hk'⟩, hg, hg'⟩
      rw [← List.drop_drop, List.take_append_drop]⟩
theorem opn_struct {α β : Type} {P : Program} {t : TypeId} {fs : Array Field} {d : Kd α} {good : α → Prop} (ht : P.underlying t = some (.struct fs)) (hc : P.cellsOf t = d.sz) (f : β → α) (g : α → β) (hfg : ∀ a, f (g a) = a) (h : OpnF P fs.toList 0 d good) :
    Opn P t (Kd.iso d f) (fun b => good (f b)) :=
  ⟨hc, fun {H enc w fuel cs x} ho hw => by
    obtain ⟨xs, n, _, rfl, hl, hxl, hf⟩ := DataW.trod_struct ht ho
    obtain ⟨a, hk, hg⟩ := h.opens (cs := cs) (xs := xs) (by omega) (by simpa using hxl) (fun i f' hf' => hf i f' (by simpa using hf')) (fun n hn => hw n (by simpa [DataW.weights, ht] using hn))
    rw [List.drop_zero] at hk
    exact ⟨g a, by show d.K w (f (g a)) cs; rw [hfg]; exact hk, by show good (f (g a)); rw [hfg]; exact hg⟩⟩
theorem Opn.imp {α : Type} {P : Program} {t : TypeId} {d : Kd α} {good good' : α → Prop} (h : Opn P t d good) (hi : ∀ a, good a → good' a) : Opn P t d good' :=
  ⟨h.cells, fun ho hw => by
    obtain ⟨a, hk, hg⟩ := h.opens ho hw
    exact ⟨a, hk, hi a hg⟩⟩

/-- An argument of a struct's type. -/
theorem Opn.arg_struct {α : Type} {P : Program} {t : TypeId} {fs : Array Field} {d : Kd α} {good : α → Prop} (h : Opn P t d good) (ht : P.underlying t = some (.struct fs)) {H : Type} {enc : TypeId × Value → H} {w : World} {r : Reach} {b0 : Nat} {v : Value} {x : DataW H} {p : List MemPlace}
    (hv : Value.okWide P w r b0 t v) (hx : DataW.Trod enc P w 0 (fun _ => true) true t v x p) (hw : ∀ n ∈ x.weights P t, n ≤ reachBytes) : ∃ (a : α) (cs : List Value), v = .agg cs.toArray ∧ d.K w a cs ∧ good a := by
  obtain ⟨cs, rfl, _⟩ := okWide_struct ht hv
  obtain ⟨fuel, hf⟩ := hx
  obtain ⟨a, hk, hg⟩ := h.opens hf hw
  exact ⟨a, cs.toList, by simp, by simpa [Value.cells] using hk, hg⟩
/-- An argument of a slice's type. -/
theorem Opn.arg_slice {α : Type} {P : Program} {t e : TypeId} {d : Kd α} {good : List α → Prop} (h : Opn P t (Kd.slice e d) good) (ht : P.underlying t = some (.slice e)) {H : Type} {enc : TypeId × Value → H} {w : World} {r : Reach} {b0 : Nat} {v : Value} {x : DataW H} {p : List MemPlace}
    (hv : Value.okWide P w r b0 t v) (hx : DataW.Trod enc P w 0 (fun _ => true) true t v x p) (hw : ∀ n ∈ x.weights P t, n ≤ reachBytes) : ∃ (xs : List α) (A : Option Addr) (c : Nat), v = .slice A xs.length c ∧ xs.length ≤ c ∧ d.C w A xs.length xs ∧ good xs := by
  obtain ⟨a, len, cap, rfl⟩ := okWide_slice ht hv
  obtain ⟨fuel, hf⟩ := hx
  obtain ⟨xs, ⟨A, c, he, hl, hr⟩, hg⟩ := h.opens hf hw
  simp only [Value.cells] at he
  exact ⟨xs, A, c, by simpa using he, hl, hr, hg⟩
/-- What the row's weights say of one argument. -/
theorem weights_of {H : Type} {P : Program} {ts : List TypeId} {ds : List (DataW H)} (hsz : (DataW.weightsEach P ts ds).all (· ≤ reachBytes) = true) {j : Nat} {t : TypeId} {d : DataW H} (ht : ts[j]? = some t) (hd : ds[j]? = some d) : ∀ n ∈ d.weights P t, n ≤ reachBytes := fun n hn => by
  simpa using List.all_eq_true.1 hsz n (DataW.weights_mem_each ht hd n hn)
end Go.Proofs.Ytdnbpapolckklaa.Opn
