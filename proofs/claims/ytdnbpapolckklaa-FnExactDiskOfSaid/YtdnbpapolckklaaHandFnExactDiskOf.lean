/- FnExactDiskOf: the program's DiskOf, by hand. No condition. -/
import Derived.Test.YtdnbpapolckklaaPFnExactDiskOfx16
import Derived.Test.YtdnbpapolckklaaPFnExactDiskOfx18
import Derived.Test.YtdnbpapolckklaaPFnExactDiskOfx19
import Derived.Test.YtdnbpapolckklaaPFnExactDiskOfx20
import Derived.Test.YtdnbpapolckklaaPFnExactDiskOfx21
import Derived.Test.YtdnbpapolckklaaPax
namespace Go.Proofs.Ytdnbpapolckklaa.PFnExactDiskOf
open Go Go.RowKit Go.Proofs.YtdnbpapolckklaaW.PrintWords Go.Proofs.YtdnbpapolckklaaW.PrintLast Go.Proofs.YtdnbpapolckklaaW.PrintMore
set_option linter.unusedVariables false
set_option linter.unusedSimpArgs false
/-! ### append of two structs, each with rows of its own, in a region that draws -/
section
variable {P : Program} {ops : Array Oper} {o : Oper} {a : Act} {Q : Exit → Act → World → Prop} {Kc : Act → World → Prop} {α : Type}
theorem M_alloc {d : Kd α} {W : World} {base : Nat} {ok : Nat → Prop} {x : α} {cs : List Value} (h : d.M W base ok x cs) (ob : Obj) : d.M (W.alloc ob) base ok x cs :=
  d.M_mono (fun _ hk => hk.1) (d.M_move (fun k hk => Below.heap_alloc W ob k hk.2.2.1) (d.M_bound h))
theorem M_len {d : Kd α} {W : World} {base : Nat} {ok : Nat → Prop} {x : α} {cs : List Value} (h : d.M W base ok x cs) : cs.length = d.sz := d.K_len (d.K_of_M h)
theorem S_append2_step (d : Kd α) {w0 W : World} (base : Nat) (hw : Region.wanted o (yielded ops a.tmps) = true) (s x : Operand) (t e : TypeId) (z : Value) (bytes : Nat)
    (ho : o.op = .call { callee := .builtin .append, args := #[s, x], argTypes := #[t, t] })
    (ht : P.underlying t = some (.slice e)) (hinfo : (P.info? e).map (fun i => (i.zero, i.size, i.bytes)) = some (some z, d.sz, bytes)) (hz : z.cells.size = d.sz) (hs0 : 0 < d.sz) (hb0 : 0 < bytes)
    (v : Value) (xs : List α) (p q : α) (cp cq : List Value) (ok okp okq : Nat → Prop) (hs : a.eval s = v) (hx : a.eval x = .slice (some ⟨W.heap.size, 0, none⟩) 2 2)
    (hp : d.M W base okp p cp) (hq : d.M W base okq q cq) (hpq : ∀ k, okp k → ¬ okq k) (hokp : ∀ k, okp k → ok k ∧ some k ≠ v.ownBlock) (hokq : ∀ k, okq k → ok k ∧ some k ≠ v.ownBlock) (hfresh : ∀ k, W.heap.size ≤ k → ok k)
    (HO : Kd.S d e W base (fun k => ok k ∧ ¬ okp k ∧ ¬ okq k) v xs) (HB : Below base w0 W) (hbase : base ≤ W.heap.size) (hl : (xs.length + 2) * bytes ≤ 140737488355328)
    (h : ∀ v1 w1, Kd.S d e w1 base ok v1 (xs ++ [p, q]) → Below base w0 w1 → (W.alloc (.cells (cp ++ cq).toArray e)).grownBy w1 v.ownBlock → Kc (a.put o.dst v1) w1) :
    if Region.wanted o (yielded ops a.tmps) = true then Oper.wp P o a (W.alloc (.cells (cp ++ cq).toArray e)) Kc Q else Kc (a.put o.dst undef) (W.alloc (.cells (cp ++ cq).toArray e)) := by
  obtain ⟨f, hR⟩ := HO
  obtain ⟨f', hf', hfp, hfq⟩ : ∃ f' : Nat → Nat, (∀ k, ¬ okp k → ¬ okq k → f' k = f k) ∧ (∀ k, okp k → f' k = xs.length) ∧ (∀ k, okq k → f' k = xs.length + 1) := by
    classical
    refine ⟨fun k => if okp k then xs.length else if okq k then xs.length + 1 else f k, fun k h1 h2 => ?_, fun k h1 => if_pos h1, fun k h1 => ?_⟩
    · simp only [if_neg h1, if_neg h2]
    · simp only [if_neg (fun h2 => hpq k h2 h1), if_pos h1]
  have hR1 := Kd.R_tag (f' := f') hR (fun k hk _ => hf' k hk.2.1 hk.2.2)
  have hR2 := Kd.R_mono (Kd.R_alloc hR1 (.cells (cp ++ cq).toArray e)) (fun k hk => hk.1)
  have lp := M_len hp
  have lq := M_len hq
  have hnew := blk_new W (.cells (cp ++ cq).toArray e)
  refine Kd.R_append_rows_step (Rr := fun y cs => (Kd.tag f' d).M (W.alloc (.cells (cp ++ cq).toArray e)) base (fun k => okp k ∨ okq k) y cs) (Kd.tag f' d) base hw s x t e z bytes ho ht hinfo hz hs0 hb0 v xs.zipIdx [(p, xs.length), (q, xs.length + 1)] (some ⟨W.heap.size, 0, none⟩) 2 2 ok (fun k => okp k ∨ okq k) hs hx hR2 ?_ (fun _ _ h => h) (fun k hk => hk.elim (hokp k) (hokq k)) (fun k hk => hfresh k (by have := (below_alloc (Below.refl W.heap.size W) (.cells (cp ++ cq).toArray e)).size; omega)) (HB.alloc hbase _) (Nat.le_trans hbase (below_alloc (Below.refl W.heap.size W) (.cells (cp ++ cq).toArray e)).size) (by rw [List.length_zipIdx]; exact hl) ?_
  · refine ⟨rfl, by decide, fun _ => ⟨_, rfl, fun j y hj => ?_⟩⟩
    match j, hj with
    | 0, hj =>
      obtain rfl := Option.some.inj hj
      refine ⟨cp, lp, (Kd.tag f' d).M_mono (fun k hk => hk) (d.M_mono (fun k hk => ⟨.inl hk, hfp k hk⟩) (M_alloc hp _)), fun i u hi => ?_⟩
      have hi' := (List.getElem?_eq_some_iff.1 hi).1
      have e1 : (⟨W.heap.size, 0, none⟩ : Addr).add (0 * (Kd.tag f' d).sz + i) = ⟨W.heap.size, i, none⟩ := by rw [Nat.zero_mul, Nat.zero_add]; simp [Addr.add] <;> omega
      rw [e1, blk_cell hnew i, List.getElem?_toArray, List.getElem?_append_left hi']
      exact hi
    | 1, hj =>
      obtain rfl := Option.some.inj hj
      refine ⟨cq, lq, (Kd.tag f' d).M_mono (fun k hk => hk) (d.M_mono (fun k hk => ⟨.inr hk, hfq k hk⟩) (M_alloc hq _)), fun i u hi => ?_⟩
      have e1 : (⟨W.heap.size, 0, none⟩ : Addr).add (1 * (Kd.tag f' d).sz + i) = ⟨W.heap.size, cp.length + i, none⟩ := by
        show (⟨W.heap.size, 0, none⟩ : Addr).add (1 * d.sz + i) = _
        rw [Nat.one_mul, lp]
        simp [Addr.add] <;> omega
      rw [e1, blk_cell hnew _, List.getElem?_toArray, List.getElem?_append_right (by omega), Nat.add_sub_cancel_left]
      exact hi
    | j + 2, hj => simp at hj
  · intro v1 w1 hr hb hg _
    refine h v1 w1 ⟨f', ?_⟩ hb hg
    have e1 : (xs ++ [p, q]).zipIdx = xs.zipIdx ++ [(p, xs.length), (q, xs.length + 1)] := by simp [List.zipIdx_append]
    rw [e1]
    exact hr
end
/-! ### impl_DiskOf: function 26, by hand -/
def impl_DiskOf.l0 : Nat → List ByteArray → Int → List S105 → Option (List S105)
  | 0, _, _, _ => none
  | k + 1, us, i, acc => if i < (us.length : Int) then (if 0 ≤ i then ((if ((rdOf ByteArray.empty us i).size : Int) = 8 then some (rdOf ByteArray.empty us i) else impl_byteTexts.f k [0, 0, 0, 0, 0, 0, 0, 0]).bind fun t => if 4 ≤ (t.size : Int) then ((impl_inodeOf.f k (t.extract 0 4)).bind fun a => (impl_inodeOf.f k (t.extract 4 t.size)).bind fun b => if acc.length < 1000000 then impl_DiskOf.l0 k us (wrap64 (i + 1)) (acc ++ [(⟨a.1, a.2.1, a.2.2⟩ : S105), (⟨b.1, b.2.1, b.2.2⟩ : S105)]) else none) else none) else none) else some acc
def impl_DiskOf.l1 : Nat → List ByteArray → Int → List S59 → Option (List S59)
  | 0, _, _, _ => none
  | k + 1, us, i, acc => if i < (us.length : Int) then (if 0 ≤ i then ((impl_ReadBlock.f k (rdOf ByteArray.empty us i)).bind fun b => if acc.length < 1000000 then impl_DiskOf.l1 k us (wrap64 (i + 1)) (acc ++ [(⟨b.1, b.2.1, b.2.2.1⟩ : S59)]) else none) else none) else some acc
def impl_DiskOf.f (k : Nat) (us : List ByteArray) : Option (List Bool × List Bool × List S105 × List S59 × Bool) :=
  (impl_DeviceOk.f k us).bind fun ok => if ok = true then (if 5 ≤ (us.length : Int) then ((impl_ReadBits.f k (rdOf ByteArray.empty us 0)).bind fun r => (impl_DiskOf.l0 k ((us.take 5).tail) 0 []).bind fun I => (impl_DiskOf.l1 k (us.drop 5) 0 []).bind fun B => some (if r.2.2 = true then r.1 else List.replicate 16 true, if r.2.2 = true then r.2.1 else List.replicate 8 true, I, B, true)) else none) else some ([], [], [], [], false)
theorem own_apart {W : World} {v u : Value} {t t' : Nat} (h : ∀ k, v.ownBlock = some k → ∃ cells, W.heap[k]? = some (.cells cells t (0, 0))) (h' : ∀ k, u.ownBlock = some k → ∃ cells, W.heap[k]? = some (.cells cells t' (0, 0))) (hne : t ≠ t') : ∀ k, some k = v.ownBlock → some k ≠ u.ownBlock := by
  intro k hk hk'
  obtain ⟨c, e⟩ := h k hk.symm
  obtain ⟨c', e'⟩ := h' k hk'.symm
  exact blk_ne e e' hne rfl
/-- What the walk holds: the boxes of d, of the answer, of out; out's rows. -/
def IV (w W : World) (A : Option Addr) (l0 : List ByteArray) (c0 : Nat) (gP gR gO : Nat) (v0 v1 u2 u3 : Value) (a b : List Bool) (I : List S105) (B : List S59) : Prop :=
  Below w.heap.size w W ∧ (W.heap[gP]? = some (.cells #[.slice A l0.length c0] 32 (0, 0)) ∧ w.heap.size ≤ gP) ∧ (W.heap[gR]? = some (.cells #[.slice none 0 0, .slice none 0 0, .slice none 0 0, .slice none 0 0] 39 (0, 0)) ∧ w.heap.size ≤ gR) ∧ (W.heap[gO]? = some (.cells #[v0, v1, u2, u3] 39 (0, 0)) ∧ w.heap.size ≤ gO) ∧ gR ≠ gO ∧
    Kd.R Kd.bool 4 W w.heap.size (fun k_ => some k_ ≠ v1.ownBlock) v0 a ∧ Kd.R Kd.bool 4 W w.heap.size (fun k_ => some k_ ≠ v0.ownBlock) v1 b ∧ Kd.S k105 105 W w.heap.size (fun _ => True) u2 I ∧ Kd.S k59 59 W w.heap.size (fun _ => True) u3 B
section
variable {w W W1 : World} {A : Option Addr} {l0 : List ByteArray} {c0 gP gR gO : Nat} {v0 v1 u2 u3 v2 v3 : Value} {a b : List Bool} {I I' : List S105} {B B' : List S59}
theorem IV.below (h : IV w W A l0 c0 gP gR gO v0 v1 u2 u3 a b I B) (hb : Below W.heap.size W W1) : IV w W1 A l0 c0 gP gR gO v0 v1 u2 u3 a b I B := by
  obtain ⟨h0, ⟨h1, g1⟩, ⟨h2, g2⟩, ⟨h3, g3⟩, h4, h5, h6, h7, h8⟩ := h
  exact ⟨below_step h0 hb, ⟨blk_below h1 hb, g1⟩, ⟨blk_below h2 hb, g2⟩, ⟨blk_below h3 hb, g3⟩, h4, Kd.R_below h5 hb, Kd.R_below h6 hb, Kd.S_below h7 hb, Kd.S_below h8 hb⟩
/-- Another row of inodes comes into out. -/
theorem IV.in2 (h : IV w W A l0 c0 gP gR gO v0 v1 u2 u3 a b I B) (hb : Below w.heap.size w W1) (hg : W.grownBy W1 u2.ownBlock) (hs : Kd.S k105 105 W1 w.heap.size (fun _ => True) v2 I') : IV w (W1.setCell ⟨gO, 2, none⟩ v2) A l0 c0 gP gR gO v0 v1 v2 u3 a b I' B := by
  obtain ⟨h0, ⟨h1, g1⟩, ⟨h2, g2⟩, ⟨h3, g3⟩, h4, h5, h6, h7, h8⟩ := h
  have t := Kd.S_typed h7
  have b3 := blk_grown h3 hg (Kd.S_ne h7 h3 (by decide))
  have b1 := blk_grown h1 hg (Kd.S_ne h7 h1 (by decide))
  have b2 := blk_grown h2 hg (Kd.S_ne h7 h2 (by decide))
  refine ⟨below_set hb g3, ⟨blk_far b1 (blk_ne b1 b3 (by decide)) _, g1⟩, ⟨blk_far b2 h4 _, g2⟩, ⟨blk_put b3 2 v2 rfl, g3⟩, h4, Kd.R_set (Kd.R_over' h5 t (by decide) hg) b3 (by decide) _ _, Kd.R_set (Kd.R_over' h6 t (by decide) hg) b3 (by decide) _ _, Kd.S_set hs b3 (by decide) _ _, Kd.S_set (Kd.S_over' h8 t (by decide) hg) b3 (by decide) _ _⟩
/-- Another row of blocks comes into out. -/
theorem IV.in3 (h : IV w W A l0 c0 gP gR gO v0 v1 u2 u3 a b I B) (hb : Below w.heap.size w W1) (hg : W.grownBy W1 u3.ownBlock) (hs : Kd.S k59 59 W1 w.heap.size (fun _ => True) v3 B') : IV w (W1.setCell ⟨gO, 3, none⟩ v3) A l0 c0 gP gR gO v0 v1 u2 v3 a b I B' := by
  obtain ⟨h0, ⟨h1, g1⟩, ⟨h2, g2⟩, ⟨h3, g3⟩, h4, h5, h6, h7, h8⟩ := h
  have t := Kd.S_typed h8
  have b3 := blk_grown h3 hg (Kd.S_ne h8 h3 (by decide))
  have b1 := blk_grown h1 hg (Kd.S_ne h8 h1 (by decide))
  have b2 := blk_grown h2 hg (Kd.S_ne h8 h2 (by decide))
  refine ⟨below_set hb g3, ⟨blk_far b1 (blk_ne b1 b3 (by decide)) _, g1⟩, ⟨blk_far b2 h4 _, g2⟩, ⟨blk_put b3 3 v3 rfl, g3⟩, h4, Kd.R_set (Kd.R_over' h5 t (by decide) hg) b3 (by decide) _ _, Kd.R_set (Kd.R_over' h6 t (by decide) hg) b3 (by decide) _ _, Kd.S_set (Kd.S_over' h7 t (by decide) hg) b3 (by decide) _ _, Kd.S_set hs b3 (by decide) _ _⟩
/-- The bits come into out. -/
theorem IV.in01 {x0 x1 : Value} {la lb : List Bool} (h : IV w W A l0 c0 gP gR gO v0 v1 u2 u3 a b I B) (r0 : Kd.R Kd.bool 4 W w.heap.size (fun k_ => some k_ ≠ x1.ownBlock) x0 la) (r1 : Kd.R Kd.bool 4 W w.heap.size (fun k_ => some k_ ≠ x0.ownBlock) x1 lb) (hw : W1 = (W.setCell ⟨gO, 0, none⟩ x0).setCell ⟨gO, 1, none⟩ x1) : IV w W1 A l0 c0 gP gR gO x0 x1 u2 u3 la lb I B := by
  subst hw
  obtain ⟨h0, ⟨h1, g1⟩, ⟨h2, g2⟩, ⟨h3, g3⟩, h4, h5, h6, h7, h8⟩ := h
  have b1 := blk_put (cs' := #[x0, v1, u2, u3]) h3 0 x0 rfl
  have n1 := blk_ne h1 h3 (by decide)
  exact ⟨below_set (below_set h0 g3) g3, ⟨blk_far (blk_far h1 n1 _) n1 _, g1⟩, ⟨blk_far (blk_far h2 h4 _) h4 _, g2⟩, ⟨blk_put b1 1 x1 rfl, g3⟩, h4, Kd.R_set (Kd.R_set r0 h3 (by decide) _ _) b1 (by decide) _ _, Kd.R_set (Kd.R_set r1 h3 (by decide) _ _) b1 (by decide) _ _, Kd.S_set (Kd.S_set h7 h3 (by decide) _ _) b1 (by decide) _ _, Kd.S_set (Kd.S_set h8 h3 (by decide) _ _) b1 (by decide) _ _⟩
/-- The answer's box is written. -/
theorem IV.ret (h : IV w W A l0 c0 gP gR gO v0 v1 u2 u3 a b I B) (x0 x1 x2 x3 : Value) (hw : W1 = (((W.setCell ⟨gR, 0, none⟩ x0).setCell ⟨gR, 1, none⟩ x1).setCell ⟨gR, 2, none⟩ x2).setCell ⟨gR, 3, none⟩ x3) : W1.heap[gR]? = some (.cells #[x0, x1, x2, x3] 39 (0, 0)) ∧ Kd.R Kd.bool 4 W1 w.heap.size (fun k_ => some k_ ≠ v1.ownBlock) v0 a ∧ Kd.R Kd.bool 4 W1 w.heap.size (fun k_ => some k_ ≠ v0.ownBlock) v1 b ∧ Kd.S k105 105 W1 w.heap.size (fun _ => True) u2 I ∧ Kd.S k59 59 W1 w.heap.size (fun _ => True) u3 B ∧ Below w.heap.size w W1 := by
  subst hw
  obtain ⟨h0, _, ⟨h2, g2⟩, _, _, h5, h6, h7, h8⟩ := h
  have b1 := blk_put (cs' := #[x0, .slice none 0 0, .slice none 0 0, .slice none 0 0]) h2 0 x0 rfl
  have b2 := blk_put (cs' := #[x0, x1, .slice none 0 0, .slice none 0 0]) b1 1 x1 rfl
  have b3 := blk_put (cs' := #[x0, x1, x2, .slice none 0 0]) b2 2 x2 rfl
  exact ⟨blk_put b3 3 x3 rfl, Kd.R_set (Kd.R_set (Kd.R_set (Kd.R_set h5 h2 (by decide) _ _) b1 (by decide) _ _) b2 (by decide) _ _) b3 (by decide) _ _, Kd.R_set (Kd.R_set (Kd.R_set (Kd.R_set h6 h2 (by decide) _ _) b1 (by decide) _ _) b2 (by decide) _ _) b3 (by decide) _ _, Kd.S_set (Kd.S_set (Kd.S_set (Kd.S_set h7 h2 (by decide) _ _) b1 (by decide) _ _) b2 (by decide) _ _) b3 (by decide) _ _, Kd.S_set (Kd.S_set (Kd.S_set (Kd.S_set h8 h2 (by decide) _ _) b1 (by decide) _ _) b2 (by decide) _ _) b3 (by decide) _ _, below_set (below_set (below_set (below_set h0 g2) g2) g2) g2⟩
/-- A store into the box of bits. -/
theorem IV.setB {gB : Nat} {cs : Array Value} (h : IV w W A l0 c0 gP gR gO v0 v1 u2 u3 a b I B) (hb : W.heap[gB]? = some (.cells cs 35 (0, 0))) (hg : w.heap.size ≤ gB) (j : Nat) (u : Value) : IV w (W.setCell ⟨gB, j, none⟩ u) A l0 c0 gP gR gO v0 v1 u2 u3 a b I B := by
  obtain ⟨h0, ⟨h1, g1⟩, ⟨h2, g2⟩, ⟨h3, g3⟩, h4, h5, h6, h7, h8⟩ := h
  exact ⟨below_set h0 hg, ⟨blk_far h1 (blk_ne h1 hb (by decide)) _, g1⟩, ⟨blk_far h2 (blk_ne h2 hb (by decide)) _, g2⟩, ⟨blk_far h3 (blk_ne h3 hb (by decide)) _, g3⟩, h4, Kd.R_set h5 hb (by decide) _ _, Kd.R_set h6 hb (by decide) _ _, Kd.S_set h7 hb (by decide) _ _, Kd.S_set h8 hb (by decide) _ _⟩
theorem IV.setB2 {gB : Nat} {p q x y : Value} (h : IV w W A l0 c0 gP gR gO v0 v1 u2 u3 a b I B) (hb : W.heap[gB]? = some (.cells #[p, q] 35 (0, 0))) (hg : w.heap.size ≤ gB) (hw : W1 = (W.setCell ⟨gB, 0, none⟩ x).setCell ⟨gB, 1, none⟩ y) : IV w W1 A l0 c0 gP gR gO v0 v1 u2 u3 a b I B ∧ W1.heap[gB]? = some (.cells #[x, y] 35 (0, 0)) := by
  subst hw
  have b1 := blk_put (cs' := #[x, q]) hb 0 x rfl
  exact ⟨IV.setB (IV.setB h hb hg 0 x) b1 hg 1 y, blk_put b1 1 y rfl⟩
end
theorem lit_true (W : World) : Kd.C Kd.bool (W.alloc (.cells #[.bool true] 4)) (some ⟨W.heap.size, 0, none⟩) [true].length [true] := by
  refine ⟨rfl, by decide, fun _ => ⟨_, rfl, fun j p hj => ?_⟩⟩
  match j, hj with
  | 0, hj =>
    obtain rfl := Option.some.inj hj
    refine ⟨[.bool true], rfl, rfl, fun i u hi => ?_⟩
    match i, hi with
    | 0, hi =>
      obtain rfl := Option.some.inj hi
      have e1 : (⟨W.heap.size, 0, none⟩ : Addr).add (0 * Kd.bool.sz + 0) = ⟨W.heap.size, 0, none⟩ := by simp [Addr.add]
      rw [e1]
      exact v1c (blk_new W (.cells #[.bool true] 4))
    | i + 1, hi => simp at hi
  | j + 1, hj => simp at hj
theorem lit_ints (W : World) (xs : List Int) (hl : xs.length ≤ 1000) : Kd.C (Kd.int .i64) (W.alloc (.cells (xs.map (Value.int .i64)).toArray 3)) (some ⟨W.heap.size, 0, none⟩) xs.length xs := by
  refine ⟨rfl, by omega, fun _ => ⟨_, rfl, fun j p hj => ⟨[.int .i64 p], rfl, rfl, fun i u hi => ?_⟩⟩⟩
  match i, hi with
  | 0, hi =>
    obtain rfl := Option.some.inj hi
    have e1 : (⟨W.heap.size, 0, none⟩ : Addr).add (j * (Kd.int .i64).sz + 0) = ⟨W.heap.size, j, none⟩ := by
      show (⟨W.heap.size, 0, none⟩ : Addr).add (j * 1 + 0) = _
      rw [Nat.mul_one, Nat.add_zero]
      simp [Addr.add] <;> omega
    rw [e1, blk_cell (blk_new W _) j, List.getElem?_toArray, List.getElem?_map, hj]
    rfl
  | i + 1, hi => simp at hi
set_option maxHeartbeats 4000000 in
set_option maxRecDepth 100000 in
theorem impl_DiskOf.calls (k : Nat) (A0 : Option Addr) (c0 : Nat) (l0 : List ByteArray) (r1 r2 : List Bool) (r3 : List S105) (r4 : List S59) (r5 : Bool) (w : World) (hr0 : Kd.C Kd.string w A0 l0.length l0) (hc0 : l0.length ≤ c0) (h : impl_DiskOf.f k l0 = some (r1, r2, r3, r4, r5)) :
    Calls Try.prog 26 #[.agg #[.slice A0 l0.length c0]] w fun e w' => ∃ v0_ v1_ v2_ v3_ : Value, e = .returned (.tuple #[.agg #[v0_, v1_, v2_, v3_], .bool r5]) ∧ Kd.R Kd.bool 4 w' w.heap.size (fun k_ => some k_ ≠ v1_.ownBlock) v0_ r1 ∧ Kd.R Kd.bool 4 w' w.heap.size (fun k_ => some k_ ≠ v0_.ownBlock) v1_ r2 ∧ Kd.S k105 105 w' w.heap.size (fun _ => True) v2_ r3 ∧ Kd.S k59 59 w' w.heap.size (fun _ => True) v3_ r4 ∧ Below w.heap.size w w' := by
  have hu32 := Try.underlying32
  have hu39 := Try.underlying39
  have hu35 := Try.underlying35
  have hu59 := Try.underlying59
  have HR := Aside0.mk hr0
  have HC := Aside0.mk hc0
  unfold impl_DiskOf.f at h
  replace h := Option.bind_eq_some_iff.mp h
  obtain ⟨ok, A1, h⟩ := h
  have A1 := Aside0.mk A1
  have H := Aside0.mk h
  clear hr0 hc0 h
  go_enter Try.func26, Try.ntmps26
  have HB := Aside0.mk (Below.refl w.heap.size w)
  go_wp2_with (first | ((with_reducible refine gate_dst (N := 1) rfl ?_); refine vx (N := 1) (cs := #[.slice A0 l0.length c0]) (t := 32) ?_; intro gP hg wP hbox hb; have BKP := vA hbox; have GP := vA (vg hg (vh HB)); replace HB := vbs HB hb; clear hg hbox hb) | ((with_reducible refine gate_dst (N := 2) rfl ?_); refine vx (N := 2) (cs := #[.slice none 0 0, .slice none 0 0, .slice none 0 0, .slice none 0 0]) (t := 39) ?_; intro gR hg wR hbox hb; replace BKP := vw BKP hb; have BKR := vA hbox; have GR := vA (vg hg (vh HB)); replace HB := vbs HB hb; clear hg hbox hb; have yP := v1c BKP.out) | (go_at_call 9))
  clear yP
  refine (impl_DeviceOk.calls k _ _ l0 ok _ (Kd.C_below HR.out HB.out) HC.out A1.out).mono ?_
  rintro e w1 ⟨rfl, hb1⟩
  replace BKP := vw BKP hb1
  replace BKR := vw BKR hb1
  replace HB := vbs HB hb1
  clear hb1
  have h := H.out
  clear H
  by_cases hok : ok = true
  · subst hok
    rw [if_pos rfl] at h
    by_cases h5 : 5 ≤ (l0.length : Int)
    · rw [if_pos h5] at h
      replace h := Option.bind_eq_some_iff.mp h
      obtain ⟨⟨ba, bb, bo⟩, A2, h⟩ := h
      have A2 := Aside0.mk A2
      have H := Aside0.mk h
      clear h
      obtain ⟨ad, e0, hx0⟩ := Kd.at_string HR.out 0 (by decide) (by omega)
      cases e0
      have hx0 : w.cell? ad = some (.string (rdOf ByteArray.empty l0 0)) := by simpa [Addr.add] using hx0
      have HX0 := Aside0.mk hx0
      have H5 := Aside0.mk h5
      clear hx0 h5
      have p5 : (0 < l0.length) = True := eq_true (by have := H5.out; omega)
      have q5 : ((0 : Int) < (l0.length : Int)) = True := eq_true (by have := H5.out; omega)
      go_wp2_with (first | ((with_reducible refine gate_dst (N := 4) rfl ?_); refine vx (N := 4) (cs := #[.slice none 0 0, .slice none 0 0, .slice none 0 0, .slice none 0 0]) (t := 39) ?_; intro gO hg wO hbox hb; have NO := vn hg BKR; have GO := vA (vg hg (vh HB)); replace BKP := vw BKP hb; replace BKR := vw BKR hb; have BKO := vA hbox; replace HB := vbs HB hb; have NP := vA (blk_ne BKP.out BKO.out (by decide)); clear hg hbox hb; obtain ⟨y0, y1, y2, y3⟩ := v4c BKO.out; obtain ⟨z0, z1, z2, z3⟩ := v4f BKO.out) | ((with_reducible refine gate_store (t := 39) (p := 4) rfl ?_); refine store_event (t := 39) (p := 4) (v := ?vo) (w1 := ((((wO.setCell ⟨gO, 0, none⟩ (.slice none 0 0)).setCell ⟨gO, 1, none⟩ (.slice none 0 0)).setCell ⟨gO, 2, none⟩ (.slice none 0 0)).setCell ⟨gO, 3, none⟩ (.slice none 0 0))) ?hg ?ho ?hn ?hr ?_; (case ho => rfl); (case hg => rfl); (case hn => rfl); (case hr => first | (go_simp; done) | (go_simp; rfl)); intro w2 hw; clear y0 y1 y2 y3 z0 z1 z2 z3; replace BKP := vC BKP NP hw; replace BKR := vC BKR NO hw; replace BKO : Aside0 (w2.heap[gO]? = some (.cells #[.slice none 0 0, .slice none 0 0, .slice none 0 0, .slice none 0 0] 39 (0, 0))) := ⟨by rw [hw]; exact blk_put (blk_put (blk_put (blk_put BKO.out 0 _ rfl) 1 _ rfl) 2 _ rfl) 3 _ rfl⟩; replace HB : Aside0 (Below w.heap.size w w2) := ⟨by rw [hw]; exact vh HB⟩; clear hw; have yP := v1c BKP.out; have hx := qc HB.out HX0.out) | (go_at_call 9))
      clear yP hx
      refine (impl_ReadBits.calls k (rdOf ByteArray.empty l0 0) ba bb bo _ A2.out).mono ?_
      rintro e w3 ⟨v0, v1, rfl, ho0, ho1, hb3⟩
      have HI : IV w w3 (some ad) l0 c0 gP gR gO (.slice none 0 0) (.slice none 0 0) (.slice none 0 0) (.slice none 0 0) [] [] [] [] := IV.below ⟨HB.out, ⟨BKP.out, GP.out⟩, ⟨BKR.out, GR.out⟩, ⟨BKO.out, GO.out⟩, NO.out, Kd.R_nil _ _ _ _ _, Kd.R_nil _ _ _ _ _, Kd.S_nil _ _ _ _ _, Kd.S_nil _ _ _ _ _⟩ hb3
      obtain ⟨D0, d0, rfl⟩ := Kd.R_slice ho0
      obtain ⟨D1, d1, rfl⟩ := Kd.R_slice ho1
      have R0 := Aside0.mk (Kd.R_lower ho0 HB.out.size)
      have R1 := Aside0.mk (Kd.R_lower ho1 HB.out.size)
      have HI := Aside0.mk HI
      clear ho0 ho1 hb3 BKP BKR BKO HB NO NP GP GR GO
      go_upto_if 27 with (first | ((with_reducible refine gate_dst (N := 5) rfl ?_); refine vx (N := 5) (cs := #[.slice none 0 0, .slice none 0 0]) (t := 35) ?_; intro gB hg wB hbox hb; have GB := vA (vg hg HI.out.1); replace HI := vA (IV.below HI.out hb); replace R0 := vrb R0 hb; replace R1 := vrb R1 hb; have BKB := vA hbox; clear hg hbox hb; obtain ⟨y0, y1⟩ := v2c BKB.out; obtain ⟨z0, z1⟩ := v2f BKB.out))
      (try simp only [Act.put, List.setIfInBounds_toArray, List.set_cons_zero, List.set_cons_succ])
      obtain ⟨w4, hw⟩ : ∃ w4, w4 = ((wB.setCell ⟨gB, 0, none⟩ (.slice D0 ba.length d0)).setCell ⟨gB, 1, none⟩ (.slice D1 bb.length d1)) := ⟨_, rfl⟩
      rw [← hw]
      clear y0 y1 z0 z1
      replace R0 := vR R0 BKB hw
      replace R1 := vR R1 BKB hw
      obtain ⟨hi, hbk⟩ := IV.setB2 HI.out BKB.out GB.out hw
      replace BKB := vA hbk
      replace HI := vA hi
      clear hi hbk hw
      go_cut [] (fun wc => ∃ (x0 x1 : Value), Aside0 (IV w wc (some ad) l0 c0 gP gR gO (.slice none 0 0) (.slice none 0 0) (.slice none 0 0) (.slice none 0 0) [] [] [] []) ∧ Aside0 (wc.heap[gB]? = some (.cells #[x0, x1] 35 (0, 0))) ∧ Aside0 (Kd.R Kd.bool 4 wc w.heap.size (fun k_ => some k_ ≠ x1.ownBlock) x0 (if bo = true then ba else List.replicate 16 true)) ∧ Aside0 (Kd.R Kd.bool 4 wc w.heap.size (fun k_ => some k_ ≠ x0.ownBlock) x1 (if bo = true then bb else List.replicate 8 true)))
      case first =>
        by_cases hbo : bo = true
        · subst hbo
          go_wp2
          go_meet
          case rel => exact ⟨_, _, HI, BKB, ⟨by rw [if_pos trivial]; exact R0.out⟩, ⟨by rw [if_pos trivial]; exact R1.out⟩⟩
        · replace hbo := Bool.eq_false_iff.mpr hbo
          subst hbo
          obtain ⟨y0, y1⟩ := v2c BKB.out
          obtain ⟨z0, z1⟩ := v2f BKB.out
          go_wp2_with (go_at_call 9)
          refine (slices_Repeat_bool_bool.calls _ _ [true] 16 (List.replicate 16 true) _ (lit_true _) (by decide) rfl).mono ?_
          rintro e w5 ⟨x0, rfl, hx0, hb5⟩
          obtain ⟨E0, e0, rfl⟩ := Kd.R_slice hx0
          have hs4 := HI.out.1.size
          have hal := (below_alloc (Below.refl _ w4) (Obj.cells #[.bool true] 4)).size
          have X0 := vA (Kd.R_lower hx0 (Nat.le_trans hs4 hal))
          have hb5 := below_step (below_alloc (Below.refl _ w4) (Obj.cells #[.bool true] 4)) hb5
          replace HI := vA (IV.below HI.out hb5)
          replace BKB := vA (blk_below BKB.out hb5)
          clear y0 y1 z0 z1 hb5 hs4 hal hx0
          obtain ⟨y0, y1⟩ := v2c BKB.out
          obtain ⟨z0, z1⟩ := v2f BKB.out
          go_wp2_with (go_at_call 9)
          refine (slices_Repeat_bool_bool.calls _ _ [true] 8 (List.replicate 8 true) _ (lit_true _) (by decide) rfl).mono ?_
          rintro e w6 ⟨x1, rfl, hx1, hb6⟩
          obtain ⟨E1, e1, rfl⟩ := Kd.R_slice hx1
          have hs5 := HI.out.1.size
          have hal := (below_alloc (Below.refl _ w5) (Obj.cells #[.bool true] 4)).size
          have n0 := Kd.R_lt X0.out
          have hb6 := below_step (below_alloc (Below.refl _ w5) (Obj.cells #[.bool true] 4)) hb6
          have n1 := Kd.R_base hx1
          have X1 := vA (Kd.R_mono (ok' := fun k_ => some k_ ≠ (Value.slice E0 (List.replicate 16 true).length e0).ownBlock) (Kd.R_tight rfl (Kd.R_lower hx1 (Nat.le_trans hs5 hal))) (fun k_ hk he => by have a1 := n0 k_ he.symm; have a2 := n1 k_ hk.symm; omega))
          replace X0 := vA (Kd.R_mono (ok' := fun k_ => some k_ ≠ (Value.slice E1 (List.replicate 8 true).length e1).ownBlock) (Kd.R_tight rfl (Kd.R_below X0.out hb6)) (fun k_ hk he => by have a1 := n0 k_ hk.symm; have a2 := n1 k_ he.symm; omega))
          replace HI := vA (IV.below HI.out hb6)
          replace BKB := vA (blk_below BKB.out hb6)
          clear y0 y1 z0 z1 hb6 hs5 hal hx1 n0 n1
          obtain ⟨y0, y1⟩ := v2c BKB.out
          obtain ⟨z0, z1⟩ := v2f BKB.out
          go_wp2
          obtain ⟨w7, hw⟩ : ∃ w7, w7 = ((w6.setCell ⟨gB, 0, none⟩ (.slice E0 16 e0)).setCell ⟨gB, 1, none⟩ (.slice E1 8 e1)) := ⟨_, rfl⟩
          rw [← hw]
          clear y0 y1 z0 z1
          replace X0 := vR X0 BKB hw
          replace X1 := vR X1 BKB hw
          obtain ⟨hi, hbk⟩ := IV.setB2 HI.out BKB.out GB.out hw
          go_meet
          case rel => exact ⟨_, _, ⟨hi⟩, ⟨hbk⟩, ⟨by rw [if_neg (show ¬ (false = true) by decide)]; exact X0.out⟩, ⟨by rw [if_neg (show ¬ (false = true) by decide)]; exact X1.out⟩⟩
      case rest =>
        clear HI BKB R0 R1
        obtain ⟨x0, x1, HI, BKB, X0, X1⟩ := hcut
        obtain ⟨la, hla⟩ : ∃ la, la = (if bo = true then ba else List.replicate 16 true) := ⟨_, rfl⟩
        obtain ⟨lb, hlb⟩ : ∃ lb, lb = (if bo = true then bb else List.replicate 8 true) := ⟨_, rfl⟩
        rw [← hla] at X0
        rw [← hlb] at X1
        have h := H.out
        clear H
        simp only [← hla, ← hlb] at h
        replace h := Option.bind_eq_some_iff.mp h
        obtain ⟨I, A3, h⟩ := h
        replace h := Option.bind_eq_some_iff.mp h
        obtain ⟨B, A4, h⟩ := h
        have A3 := Aside0.mk A3
        have A4 := Aside0.mk A4
        simp only [Option.some.injEq, Prod.mk.injEq] at h
        obtain ⟨rfl, rfl, rfl, rfl, rfl⟩ := h
        clear hla hlb
        obtain ⟨D0, d0, rfl⟩ := Kd.R_slice X0.out
        obtain ⟨D1, d1, rfl⟩ := Kd.R_slice X1.out
        obtain ⟨y0, y1⟩ := v2c BKB.out
        obtain ⟨z0, z1, z2, z3⟩ := v4c HI.out.2.2.2.1.1
        obtain ⟨f0, f1, f2, f3⟩ := v4f HI.out.2.2.2.1.1
        have yP := v1c HI.out.2.1.1
        have nP := blk_ne HI.out.2.1.1 HI.out.2.2.2.1.1 (by decide)
        have nP' := nP.symm
        obtain ⟨i5, hi5, _, hsz5, _⟩ := info_parts info9
        obtain ⟨A5, hcut5, hA5, hC5⟩ := print_mid_of (P := Try.prog) Value.string (⟨#[]⟩ : ByteArray) 30 9 .i64 .i64 Try.underlying30 hi5 hsz5 (some ad) c0 l0 1 5 (by omega) (by decide) H5.out HC.out
        have HR5 := Aside0.mk (Kd.C_of_reads (h1 := fun _ => rfl) (hA5 _ (Kd.reads_of_C HR.out)))
        have HR6 := Aside0.mk (show Kd.C Kd.string w A5 ((l0.take 5).tail).length ((l0.take 5).tail) from by have y := HR5.out; rw [show (l0.take (5 : Int).toNat).drop (1 : Int).toNat = (l0.take 5).tail from List.drop_one] at y; exact y)
        clear HR5
        clear hA5 hC5 hi5 hsz5
        go_wp2
        go_loopg [39] k (fun kq v39 w' => ∃ (i : Int) (acc : List S105) (u : Value), v39 = .int .i64 i ∧ Aside0 (impl_DiskOf.l0 kq ((l0.take 5).tail) i acc = some I) ∧ Aside0 (kq ≤ k) ∧ Aside0 (IV w w' (some ad) l0 c0 gP gR gO (.slice D0 la.length d0) (.slice D1 lb.length d1) u (.slice none 0 0) la lb acc []))
        case atStart => exact ⟨0, [], .slice none 0 0, rfl, A3, ⟨Nat.le_refl _⟩, ⟨IV.in01 HI.out X0.out X1.out rfl⟩⟩
        case round =>
          clear HI X0 X1 BKB y0 y1 z0 z1 z2 z3 f0 f1 f2 f3 yP nP nP' A3
          obtain ⟨i, acc, u, rfl, HA, HK, HI⟩ := hrel
          cases gk with
          | zero => exact absurd HA.out (by simp [impl_DiskOf.l0])
          | succ k1 =>
            have h := HA.out
            clear HA
            simp only [impl_DiskOf.l0] at h
            by_cases c : i < (((l0.take 5).tail).length : Int)
            · rw [if_pos c] at h
              by_cases c' : 0 ≤ i
              · rw [if_pos c'] at h
                replace h := Option.bind_eq_some_iff.mp h
                obtain ⟨t, A7, h⟩ := h
                by_cases c4 : 4 ≤ (t.size : Int)
                · rw [if_pos c4] at h
                  replace h := Option.bind_eq_some_iff.mp h
                  obtain ⟨⟨a1, a2, a3⟩, A8, h⟩ := h
                  replace h := Option.bind_eq_some_iff.mp h
                  obtain ⟨⟨b1, b2, b3⟩, A9, h⟩ := h
                  by_cases cl : acc.length < 1000000
                  · rw [if_pos cl] at h
                    have A7 := Aside0.mk A7
                    have A8 := Aside0.mk A8
                    have A9 := Aside0.mk A9
                    have A10 := Aside0.mk h
                    have LM := Aside0.mk cl
                    clear h cl
                    obtain ⟨ad2, e2, hx⟩ := Kd.at_string HR6.out i c' c
                    have hx := qc HI.out.1 hx
                    subst e2
                    have q1 : i < ((min 5 l0.length - 1 : Nat) : Int) := by simpa [List.length_tail, List.length_take] using c
                    have cq : decide (i < ((min 5 l0.length - 1 : Nat) : Int)) = true := decide_eq_true q1
                    have p2 : (0 ≤ i) = True := eq_true c'
                    replace q1 := eq_true q1
                    have C4 := Aside0.mk c4
                    clear c c' c4
                    go_upto_if 45 with (fail)
                    go_cut [8] (fun v8 wc => v8 = .string t ∧ Aside0 (IV w wc (some ad) l0 c0 gP gR gO (.slice D0 la.length d0) (.slice D1 lb.length d1) u (.slice none 0 0) la lb acc []))
                    case first =>
                      have A7 := A7.out
                      by_cases h8 : ((rdOf ByteArray.empty ((l0.take 5).tail) i).size : Int) = 8
                      · rw [if_pos h8] at A7
                        obtain rfl := Option.some.inj A7
                        have g8 : (((rdOf ByteArray.empty ((l0.take 5).tail) i).size : Int) != 8) = false := bne_eq_false_iff_eq.mpr h8
                        go_wp2
                        go_meet
                        case rel => exact ⟨rfl, HI⟩
                      · rw [if_neg h8] at A7
                        have g8 : (((rdOf ByteArray.empty ((l0.take 5).tail) i).size : Int) != 8) = true := bne_iff_ne.mpr h8
                        have A7 := Aside0.mk A7
                        go_wp2_with (go_at_call 9)
                        refine (impl_byteTexts.calls k1 _ _ [0, 0, 0, 0, 0, 0, 0, 0] t _ (lit_ints _ [0, 0, 0, 0, 0, 0, 0, 0] (by decide)) (by decide) A7.out).mono ?_
                        rintro e w8 ⟨rfl, hb8⟩
                        replace HI := vA (IV.below (IV.below HI.out (below_alloc (Below.refl _ _) _)) hb8)
                        clear hb8
                        go_wp2
                        go_meet
                        case rel => exact ⟨rfl, HI⟩
                    case rest =>
                      clear HI hx
                      obtain ⟨rfl, HI⟩ := hcut
                      have p4 : (4 ≤ t.size) = True := eq_true (by have := C4.out; omega)
                      have q4 : ((4 : Int) ≤ (t.size : Int)) = True := eq_true C4.out
                      go_wp2
                      refine start_ (n := 12) (S := fun w' => w'.cell? ⟨gO, 2, none⟩ = some u) (ds := [11]) #[false, false, false, false, false, false, false, false, false, false, false, false] (by kernel_rfl) rfl rfl ((v4c HI.out.2.2.2.1.1).2.2.1) (fun hHeld => ?_)
                      have HI := vA (IV.below HI.out (below_drew (Below.refl _ _)))
                      generalize World.drew _ = wd at HI hHeld ⊢
                      refine pure_ (i := 0) (N := some 48) (v := ?_) (a' := ?_) #[true, false, false, false, false, false, false, false, false, false, false, false] rfl rfl (by kernel_rfl) (fun _ _ _ h => h) (Or.inl ⟨by rfl, ?_⟩) ?_ ?_
                      rotate_left
                      · intro w'
                        go_simp
                        with_reducible rfl
                      rotate_left
                      · refine qp ?_
                        rfl
                      refine pure_ (i := 2) (N := some 50) (v := ?_) (a' := ?_) #[true, false, true, false, false, false, false, false, false, false, false, false] rfl rfl (by kernel_rfl) (fun _ _ _ h => h) (Or.inl ⟨by rfl, ?_⟩) ?_ ?_
                      rotate_left
                      · intro w'
                        go_simp
                        with_reducible rfl
                      rotate_left
                      · refine qp ?_
                        rfl
                      refine pure_ (i := 3) (N := some 51) (v := ?_) (a' := ?_) #[true, false, true, true, false, false, false, false, false, false, false, false] rfl rfl (by kernel_rfl) (fun _ _ _ h => h) (Or.inl ⟨by rfl, ?_⟩) ?_ ?_
                      rotate_left
                      · intro w'
                        go_simp
                        with_reducible rfl
                      rotate_left
                      · refine qp ?_
                        rfl
                      refine pure_ (i := 5) (N := some 53) (v := ?_) (a' := ?_) #[true, false, true, true, false, true, false, false, false, false, false, false] rfl rfl (by kernel_rfl) (fun _ _ _ h => h) (Or.inl ⟨by rfl, ?_⟩) ?_ ?_
                      rotate_left
                      · intro w'
                        go_simp
                        with_reducible rfl
                      rotate_left
                      · refine qp ?_
                        rfl
                      refine pure_ (i := 6) (N := some 54) (v := ?_) (a' := ?_) #[true, false, true, true, false, true, true, false, false, false, false, false] rfl rfl (by kernel_rfl) (fun _ _ _ h => h) (Or.inl ⟨by rfl, ?_⟩) ?_ ?_
                      rotate_left
                      · intro w'
                        go_simp
                        with_reducible rfl
                      rotate_left
                      · refine qp ?_
                        rfl
                      refine take_ (i := 1) (N := some 49) (v := ?_) (a' := ?_) #[true, true, true, true, false, true, true, false, false, false, false, false] rfl rfl (by kernel_rfl) (fun _ _ _ h => h) (Or.inl ⟨by rfl, ?_⟩) hHeld ?_ ?_
                      rotate_left
                      · rintro w' s2
                        go_simp
                        with_reducible rfl
                      rotate_left
                      · refine qp ?_
                        rfl
                      refine one_ (i := 4) (N := some 52) #[true, true, true, true, true, true, true, false, false, false, false, false] rfl rfl (by kernel_rfl) (by decide) (fun K hK => ?_)
                      refine goes_ Try.func84 (by kernel_rfl) rfl #[.string (t.extract 0 4)] (by rfl) rfl rfl qm ?_
                      refine (impl_inodeOf.calls k1 (t.extract 0 4) a1 a2 a3 wd A8.out).mono ?_
                      rintro e w67 ⟨vp, rfl, ho0, hb7⟩
                      refine ⟨_, rfl, ?_⟩
                      have HI7 := vA (IV.below HI.out hb7)
                      have HS := vA (Kd.S_old HI.out.2.2.2.2.2.2.2.1 hb7)
                      have P1 := vA (Kd.R_lower ho0 HI.out.1.size)
                      have pb := Kd.R_base ho0
                      have pl := Kd.R_lt ho0
                      refine hK.out _ _ ((v4c HI7.out.2.2.2.1.1).2.2.1) (fun hHeld => ?_)
                      clear hK K
                      refine norm_ (a' := ?_) ?_ ?_
                      rotate_left
                      · show Act.put _ (some 52) _ = _
                        refine qp ?_
                        rfl
                      refine one_ (i := 7) (N := some 55) #[true, true, true, true, true, true, true, true, false, false, false, false] rfl rfl (by kernel_rfl) (by decide) (fun K hK => ?_)
                      refine goes_ Try.func84 (by kernel_rfl) rfl #[.string (t.extract 4 t.size)] (by rfl) rfl rfl qm ?_
                      refine (impl_inodeOf.calls k1 (t.extract 4 t.size) b1 b2 b3 w67 A9.out).mono ?_
                      rintro e w68 ⟨vq, rfl, hq0, hb8⟩
                      refine ⟨_, rfl, ?_⟩
                      have HI8 := vA (IV.below HI7.out hb8)
                      replace HS := vsb HS hb8
                      replace P1 := vrb P1 hb8
                      have Q1 := vA (Kd.R_lower hq0 HI7.out.1.size)
                      have qb := Kd.R_base hq0
                      have h78 := hb7.size
                      refine hK.out _ _ ((v4c HI8.out.2.2.2.1.1).2.2.1) (fun hHeld => ?_)
                      clear hK K
                      refine norm_ (a' := ?_) ?_ ?_
                      rotate_left
                      · show Act.put _ (some 55) _ = _
                        refine qp ?_
                        rfl
                      refine one_ (i := 8) (N := some 56) #[true, true, true, true, true, true, true, true, true, false, false, false] rfl rfl (by kernel_rfl) (by decide) (fun K hK => ?_)
                      refine event_step (by rfl) (v := .slice (some ⟨w68.heap.size, 0, none⟩) 2 2) (w1 := w68.alloc (.cells ([.int .i64 a1, .int .i64 a2, vp] ++ [.int .i64 b1, .int .i64 b2, vq]).toArray 105)) (by first | (go_simp; done) | (go_simp; rfl)) ?_
                      have HI9 := vA (IV.below HI8.out (below_alloc (Below.refl _ w68) (.cells ([.int .i64 a1, .int .i64 a2, vp] ++ [.int .i64 b1, .int .i64 b2, vq]).toArray 105)))
                      refine hK.out _ _ ((v4c HI9.out.2.2.2.1.1).2.2.1) (fun hHeld => ?_)
                      clear hK K
                      refine norm_ (a' := ?_) ?_ ?_
                      rotate_left
                      · show Act.put _ (some 56) _ = _
                        refine qp ?_
                        rfl
                      refine one_ (i := 9) (N := some 57) #[true, true, true, true, true, true, true, true, true, true, false, false] rfl rfl (by kernel_rfl) (by decide) (fun K hK => ?_)
                      have tu := Kd.S_typed HI8.out.2.2.2.2.2.2.2.1
                      refine S_append2_step k105 (w0 := w) w.heap.size (by rfl) (.tmp 49) (.tmp 56) 36 105 (.agg #[(.int .i64 0), (.int .i64 0), (.slice none 0 0)]) 40 rfl Try.underlying36 info105 rfl (by decide) (by omega) u acc (⟨a1, a2, a3⟩ : S105) (⟨b1, b2, b3⟩ : S105) [.int .i64 a1, .int .i64 a2, vp] [.int .i64 b1, .int .i64 b2, vq] (fun _ => True) (fun k_ => some k_ = vp.ownBlock) (fun k_ => some k_ = vq.ownBlock) rfl rfl (k105_mkM _ _ _ (⟨a1, a2, a3⟩ : S105) (Kd.R_tight rfl P1.out)) (k105_mkM _ _ _ (⟨b1, b2, b3⟩ : S105) (Kd.R_tight rfl Q1.out)) (fun k_ h1 h2 => by have x1 := pl k_ h1.symm; have x2 := qb k_ h2.symm; omega) (fun k_ h1 => ⟨trivial, own_apart (Kd.R_typed P1.out) tu (by decide) k_ h1⟩) (fun k_ h1 => ⟨trivial, own_apart (Kd.R_typed Q1.out) tu (by decide) k_ h1⟩) (fun _ _ => trivial) (Kd.S_mono HS.out (fun k_ h1 => ⟨trivial, fun h2 => by have x1 := h1.2; have x2 := pb k_ h2.symm; omega, fun h2 => by have x1 := h1.2; have x2 := qb k_ h2.symm; omega⟩)) HI8.out.1 HI8.out.1.size (by have := LM.out; omega) ?_
                      intro v9 w73 hs9 hb9 hg9
                      obtain ⟨acc', hacc⟩ : ∃ acc' : List S105, acc' = acc ++ [(⟨a1, a2, a3⟩ : S105), (⟨b1, b2, b3⟩ : S105)] := ⟨_, rfl⟩
                      rw [← hacc] at hs9
                      obtain ⟨U9, u9, rfl⟩ := Kd.S_slice hs9
                      have HA' := Aside0.mk hacc
                      clear hacc
                      have bO := blk_grown HI9.out.2.2.2.1.1 hg9 (Kd.S_ne HI9.out.2.2.2.2.2.2.2.1 HI9.out.2.2.2.1.1 (by decide))
                      have HI10 := vA (IV.in2 HI9.out hb9 hg9 hs9)
                      refine hK.out _ _ ((v4c bO).2.2.1) (fun hHeld => ?_)
                      clear hK K
                      refine norm_ (a' := ?_) ?_ ?_
                      rotate_left
                      · show Act.put _ (some 57) _ = _
                        refine qp ?_
                        rfl
                      refine pure_ (i := 10) (N := some 58) (v := ?_) (a' := ?_) #[true, true, true, true, true, true, true, true, true, true, true, false] rfl rfl (by kernel_rfl) (fun _ _ _ h => h) (Or.inl ⟨by rfl, ?_⟩) ?_ ?_
                      rotate_left
                      · intro w'
                        go_simp
                        with_reducible rfl
                      rotate_left
                      · refine qp ?_
                        rfl
                      refine last_ (i := 11) (N := none) #[true, true, true, true, true, true, true, true, true, true, true, true] rfl rfl (by kernel_rfl) (by decide) (fun K hK => ?_)
                      have hs76 : w73.cell? ⟨gO, 2, none⟩ = some u := (v4c bO).2.2.1
                      have hfs76 := blk_frozen bO 2
                      refine skip_ (w1 := ?_) (by rfl) rfl ?_ ?_
                      rotate_left
                      · go_simp
                        rfl
                      refine hK.out _ _ ?_
                      clear hK K
                      refine done_ (by kernel_rfl) ?_
                      try go_wp2
                      go_roundg k1
                      case measure => have := HK.out; omega
                      case rel => exact ⟨_, acc', _, rfl, ⟨by rw [HA'.out]; exact A10.out⟩, ⟨by have := HK.out; omega⟩, HI10⟩
                  · rw [if_neg cl] at h
                    exact absurd h (by simp)
                · rw [if_neg c4] at h
                  exact absurd h (by simp)
              · rw [if_neg c'] at h
                exact absurd h (by simp)
            · rw [if_neg c] at h
              obtain rfl := Option.some.inj h
              have cq : decide (i < ((min 5 l0.length - 1 : Nat) : Int)) = false := decide_eq_false (by simpa [List.length_tail, List.length_take] using c)
              clear h c
              obtain ⟨U2, n2, rfl⟩ := Kd.S_slice HI.out.2.2.2.2.2.2.2.1
              have yP := v1c HI.out.2.1.1
              obtain ⟨i6, hi6, _, hsz6, _⟩ := info_parts info9
              obtain ⟨A6, hcut6, hA6, hC6⟩ := print_drop_of (P := Try.prog) Value.string (⟨#[]⟩ : ByteArray) 30 9 .i64 Try.underlying30 hi6 hsz6 (some ad) c0 l0 5 (by omega) H5.out HC.out
              have HR7 := Aside0.mk (show Kd.C Kd.string w A6 (l0.drop 5).length (l0.drop 5) from Kd.C_of_reads (h1 := fun _ => rfl) (hA6 _ (Kd.reads_of_C HR.out)))
              clear hA6 hC6 hi6 hsz6
              go_wp2
              go_loopg [64] k (fun kq v64 w' => ∃ (i : Int) (bcc : List S59) (u : Value), v64 = .int .i64 i ∧ Aside0 (impl_DiskOf.l1 kq (l0.drop 5) i bcc = some B) ∧ Aside0 (kq ≤ k) ∧ Aside0 (IV w w' (some ad) l0 c0 gP gR gO (.slice D0 la.length d0) (.slice D1 lb.length d1) (.slice U2 acc.length n2) u la lb acc bcc))
              case atStart => exact ⟨0, [], .slice none 0 0, rfl, A4, ⟨Nat.le_refl _⟩, HI⟩
              case round =>
                clear HI A4 yP cq
                obtain ⟨i, bcc, u, rfl, HA, HK, HI⟩ := hrel
                cases gk with
                | zero => exact absurd HA.out (by simp [impl_DiskOf.l1])
                | succ k2 =>
                  have h := HA.out
                  clear HA
                  simp only [impl_DiskOf.l1] at h
                  by_cases c : i < ((l0.drop 5).length : Int)
                  · rw [if_pos c] at h
                    by_cases c' : 0 ≤ i
                    · rw [if_pos c'] at h
                      replace h := Option.bind_eq_some_iff.mp h
                      obtain ⟨⟨b1, b2, b3, b4⟩, A7, h⟩ := h
                      by_cases cl : bcc.length < 1000000
                      · rw [if_pos cl] at h
                        have A7 := Aside0.mk A7
                        have A10 := Aside0.mk h
                        have LM := Aside0.mk cl
                        clear h cl
                        obtain ⟨ad2, e2, hx⟩ := Kd.at_string HR7.out i c' c
                        have hx := qc HI.out.1 hx
                        subst e2
                        have q1 : i < ((l0.length - 5 : Nat) : Int) := by simpa [List.length_drop] using c
                        have cq : decide (i < ((l0.length - 5 : Nat) : Int)) = true := decide_eq_true q1
                        have p2 : (0 ≤ i) = True := eq_true c'
                        replace q1 := eq_true q1
                        clear c c'
                        go_wp2_with (go_at_call 9)
                        refine (impl_ReadBlock.calls k2 (rdOf ByteArray.empty (l0.drop 5) i) b1 b2 b3 b4 _ A7.out).mono ?_
                        rintro e w8 ⟨vb, rfl, ho0, hb8⟩
                        have HS := vA (Kd.S_old HI.out.2.2.2.2.2.2.2.2 hb8)
                        have P1 := vA (Kd.R_lower ho0 HI.out.1.size)
                        have PB := vA (Kd.R_base ho0)
                        obtain ⟨Vb, nb, rfl⟩ := Kd.R_slice ho0
                        replace HI := vA (IV.below HI.out hb8)
                        have HB8 := vA (Below.refl w8.heap.size w8)
                        clear ho0 hb8 hx
                        go_wp2_with (first | ((with_reducible refine gate_dst (N := 11) rfl ?_); refine vx (N := 11) (cs := #[.bool false, .slice none 0 0, .string (⟨#[]⟩ : ByteArray)]) (t := 59) ?_; intro gK hg wK hbox hb; have GK := vA (vg hg (vh HB8)); replace HB8 := vbs HB8 hb; have BKK := vA hbox; clear hg hbox hb; obtain ⟨y0, y1, y2⟩ := v3c BKK.out; obtain ⟨x0, x1, x2⟩ := v3f BKK.out; have bO := blk_below HI.out.2.2.2.1.1 HB8.out; have nK := blk_ne BKK.out bO (by decide); have nK' := nK.symm; obtain ⟨z0, z1, z2, z3⟩ := v4c bO; obtain ⟨f0, f1, f2, f3⟩ := v4f bO) | ((with_reducible refine gate_builtin (b := .append) (xs := #[.tmp 74, .tmp 76]) rfl ?_); at_builtin; revert GK))
                        intro GK
                        refine Kd.S_append k59 (w0 := w) w.heap.size rfl (.tmp 74) (.tmp 76) 37 59 (.agg #[(.bool false), (.slice none 0 0), (.string ⟨#[]⟩)]) 48 rfl Try.underlying37 info59 rfl (by decide) (by omega) u bcc (⟨b1, b2, b3⟩ : S59) [.bool b1, .slice Vb b2.length nb, .string b3] (fun _ => True) (fun k_ => some k_ = (Value.slice Vb b2.length nb).ownBlock) rfl (by first | (go_simp; done) | (go_simp; rfl)) (k59_mkM _ _ _ (⟨b1, b2, b3⟩ : S59) (Kd.R_tight rfl (Kd.R_below P1.out (vh HB8)))) (fun k_ h1 => ⟨trivial, own_apart (Kd.R_typed P1.out) (Kd.S_typed HI.out.2.2.2.2.2.2.2.2) (by decide) k_ h1⟩) (fun _ _ => trivial) (Kd.S_mono (Kd.S_below HS.out (vh HB8)) (fun k_ h1 => ⟨trivial, fun h2 => by have x1 := h1.2; have x2 := PB.out k_ h2.symm; omega⟩)) (below_step HI.out.1 (vh HB8)) (below_step HI.out.1 (vh HB8)).size (by have := LM.out; omega) ?_
                        intro v9 w73 hs9 hb9 hg9 _
                        have HI9 : Aside0 (IV w (((wK.setCell ⟨gK, 0, none⟩ (.bool b1)).setCell ⟨gK, 1, none⟩ (.slice Vb b2.length nb)).setCell ⟨gK, 2, none⟩ (.string b3)) (some ad) l0 c0 gP gR gO (.slice D0 la.length d0) (.slice D1 lb.length d1) (.slice U2 acc.length n2) u la lb acc bcc) := ⟨IV.below HI.out (vh HB8)⟩
                        obtain ⟨acc9, hacc⟩ : ∃ acc9 : List S59, acc9 = bcc ++ [(⟨b1, b2, b3⟩ : S59)] := ⟨_, rfl⟩
                        rw [← hacc] at hs9
                        obtain ⟨U9, u9, rfl⟩ := Kd.S_slice hs9
                        have HA' := Aside0.mk hacc
                        have HI10 := vA (IV.in3 HI9.out hb9 hg9 hs9)
                        have bO9 := blk_grown HI9.out.2.2.2.1.1 hg9 (Kd.S_ne HI9.out.2.2.2.2.2.2.2.2 HI9.out.2.2.2.1.1 (by decide))
                        clear hacc hs9 hb9 hg9 z0 z1 z2 z3 f0 f1 f2 f3
                        obtain ⟨z0, z1, z2, z3⟩ := v4c bO9
                        obtain ⟨f0, f1, f2, f3⟩ := v4f bO9
                        go_wp2
                        go_roundg k2
                        case measure => have := HK.out; omega
                        case rel => exact ⟨_, acc9, _, rfl, ⟨by rw [HA'.out]; exact A10.out⟩, ⟨by have := HK.out; omega⟩, HI10⟩
                      · rw [if_neg cl] at h
                        exact absurd h (by simp)
                    · rw [if_neg c'] at h
                      exact absurd h (by simp)
                  · rw [if_neg c] at h
                    obtain rfl := Option.some.inj h
                    have cq : decide (i < ((l0.length - 5 : Nat) : Int)) = false := decide_eq_false (by simpa [List.length_drop] using c)
                    clear h c
                    obtain ⟨U3, n3, rfl⟩ := Kd.S_slice HI.out.2.2.2.2.2.2.2.2
                    obtain ⟨y0, y1, y2, y3⟩ := v4c HI.out.2.2.1.1
                    obtain ⟨x0, x1, x2, x3⟩ := v4f HI.out.2.2.1.1
                    obtain ⟨z0, z1, z2, z3⟩ := v4c HI.out.2.2.2.1.1
                    have nR := HI.out.2.2.2.2.1
                    have nR' := nR.symm
                    go_wp2
                    have r := IV.ret HI.out (.slice D0 la.length d0) (.slice D1 lb.length d1) (.slice U2 acc.length n2) (.slice U3 bcc.length n3) rfl
                    refine bodyPost_ret (results_ct rfl _ _ gR 39 #[.slice D0 la.length d0, .slice D1 lb.length d1, .slice U2 acc.length n2, .slice U3 bcc.length n3] (0, 0) _ rfl r.1 Try.underlying39 rfl (by kernel_rfl)) rfl ?_
                    exact ⟨_, _, _, _, rfl, r.2.1, r.2.2.1, r.2.2.2.1, r.2.2.2.2.1, r.2.2.2.2.2⟩
    · rw [if_neg h5] at h
      exact absurd h (by simp)
  · replace hok := Bool.eq_false_iff.mpr hok
    subst hok
    rw [if_neg (show ¬ (false = true) by decide)] at h
    simp only [Option.some.injEq, Prod.mk.injEq] at h
    obtain ⟨rfl, rfl, rfl, rfl, rfl⟩ := h
    obtain ⟨y0, y1, y2, y3⟩ := v4c BKR.out
    obtain ⟨z0, z1, z2, z3⟩ := v4f BKR.out
    go_wp2
    refine bodyPost_ret (results_ct rfl _ _ gR 39 #[.slice none 0 0, .slice none 0 0, .slice none 0 0, .slice none 0 0] (0, 0) _ rfl (blk_put (blk_put (blk_put (blk_put BKR.out 0 _ rfl) 1 _ rfl) 2 _ rfl) 3 _ rfl) Try.underlying39 rfl (by kernel_rfl)) rfl ?_
    exact ⟨.slice none 0 0, .slice none 0 0, .slice none 0 0, .slice none 0 0, rfl, Kd.R_nil _ _ _ _ _, Kd.R_nil _ _ _ _ _, Kd.S_nil _ _ _ _ _, Kd.S_nil _ _ _ _ _, vh HB⟩
end Go.Proofs.Ytdnbpapolckklaa.PFnExactDiskOf
