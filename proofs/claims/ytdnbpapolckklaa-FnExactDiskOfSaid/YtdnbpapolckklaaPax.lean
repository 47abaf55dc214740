/- Further small laws that the shortened texts use (wip/squeeze/squeeze2.py). -/
import Derived.Test.YtdnbpapolckklaaPad
import Derived.Test.YtdnbpapolckklaaWLast
import Derived.Test.YtdnbpapolckklaaWMore
import Derived.Test.YtdnbpapolckklaaWN
namespace Go.Proofs.Ytdnbpapolckklaa
open Go Go.RowKit Go.Proofs.YtdnbpapolckklaaW.PrintWords Go.Proofs.YtdnbpapolckklaaW.PrintLast Go.Proofs.YtdnbpapolckklaaW.PrintMore
theorem vA {p : Prop} (h : p) : Aside0 p := ⟨h⟩
theorem vg {w W : World} {g : Nat} (hg : g = W.heap.size) (h : Below w.heap.size w W) : w.heap.size ≤ g := by rw [hg]; exact h.size
section
variable {w : World} {g t : Nat} {a b c d e f : Value}
theorem v1c (h : w.heap[g]? = some (.cells #[a] t (0, 0))) : w.cell? ⟨g, 0, none⟩ = some a := (blk_cell h 0).trans rfl
theorem v2c (h : w.heap[g]? = some (.cells #[a, b] t (0, 0))) : w.cell? ⟨g, 0, none⟩ = some a ∧ w.cell? ⟨g, 1, none⟩ = some b := ⟨(blk_cell h 0).trans rfl, (blk_cell h 1).trans rfl⟩
theorem v3c (h : w.heap[g]? = some (.cells #[a, b, c] t (0, 0))) : w.cell? ⟨g, 0, none⟩ = some a ∧ w.cell? ⟨g, 1, none⟩ = some b ∧ w.cell? ⟨g, 2, none⟩ = some c := ⟨(blk_cell h 0).trans rfl, (blk_cell h 1).trans rfl, (blk_cell h 2).trans rfl⟩
theorem v4c (h : w.heap[g]? = some (.cells #[a, b, c, d] t (0, 0))) : w.cell? ⟨g, 0, none⟩ = some a ∧ w.cell? ⟨g, 1, none⟩ = some b ∧ w.cell? ⟨g, 2, none⟩ = some c ∧ w.cell? ⟨g, 3, none⟩ = some d := ⟨(blk_cell h 0).trans rfl, (blk_cell h 1).trans rfl, (blk_cell h 2).trans rfl, (blk_cell h 3).trans rfl⟩
theorem v2f {cs : Array Value} (h : w.heap[g]? = some (.cells cs t (0, 0))) : w.frozen? ⟨g, 0, none⟩ = false ∧ w.frozen? ⟨g, 1, none⟩ = false := ⟨blk_frozen h 0, blk_frozen h 1⟩
theorem v3f {cs : Array Value} (h : w.heap[g]? = some (.cells cs t (0, 0))) : w.frozen? ⟨g, 0, none⟩ = false ∧ w.frozen? ⟨g, 1, none⟩ = false ∧ w.frozen? ⟨g, 2, none⟩ = false := ⟨blk_frozen h 0, blk_frozen h 1, blk_frozen h 2⟩
theorem v4f {cs : Array Value} (h : w.heap[g]? = some (.cells cs t (0, 0))) : w.frozen? ⟨g, 0, none⟩ = false ∧ w.frozen? ⟨g, 1, none⟩ = false ∧ w.frozen? ⟨g, 2, none⟩ = false ∧ w.frozen? ⟨g, 3, none⟩ = false := ⟨blk_frozen h 0, blk_frozen h 1, blk_frozen h 2, blk_frozen h 3⟩
end
theorem vx {P : Program} {ops : Array Oper} {rest : List Oper} {o : Oper} {a : Act} {Q : Exit → Act → World → Prop} {W : World} {N : Tmp} {cs : Array Value} {t : TypeId}
    (h : ∀ g, g = W.heap.size → ∀ w1, w1.heap[g]? = some (.cells cs t (0, 0)) → Below W.heap.size W w1 → wpList P ops Q rest (a.put o.dst (.pointer (some ⟨g, 0, none⟩))) w1)
    (hgd : o.guard = none := by rfl) (hd : o.dst = some N := by rfl) (hrun : (execOp a.eval o).run P W = .ok (.value (.pointer (some ⟨W.heap.size, 0, none⟩))) (W.alloc (.cells cs t (0, 0))) := by first | (go_simp; done) | (go_simp; rfl)) : wpList P ops Q (o :: rest) a W :=
  box_event hgd hd hrun h
/-- A held block, at the next world. -/
theorem vw {w W w1 : World} {g : Nat} {o : Obj} (h : Aside0 (w.heap[g]? = some o)) (hb : Below W.heap.size W w1) (f : w.heap[g]? = some o → W.heap[g]? = some o := by intro hq_; (with_reducible repeat (first | refine blk_drewN ?_ _ | refine blk_drew ?_ | refine blk_alloc ?_ _)); exact hq_) : Aside0 (w1.heap[g]? = some o) := ⟨blk_below (f h.out) hb⟩
end Go.Proofs.Ytdnbpapolckklaa
namespace Go.Proofs.Ytdnbpapolckklaa
open Go Go.RowKit Go.Proofs.YtdnbpapolckklaaW.PrintWords Go.Proofs.YtdnbpapolckklaaW.PrintLast Go.Proofs.YtdnbpapolckklaaW.PrintMore
theorem vo {p : Prop} (h : Aside0 p) : p := h.out
/-- One world on: what is held stays held. -/
theorem vh {w W0 W : World} {b : Nat} (h : Aside0 (Below b w W0)) (f : Below b w W0 → Below b w W := by intro h_; repeat (first | (with_reducible first | exact h_ | apply below_alloc | apply pw_below_drewN | apply below_drew1) | exact h_ | refine below_set ?_ (vo (by assumption)))) : Below b w W := f h.out
theorem vbs {w W0 W w1 : World} (h : Aside0 (Below w.heap.size w W0)) (hb : Below W.heap.size W w1) (f : Below w.heap.size w W0 → Below w.heap.size w W := by intro h_; repeat (first | (with_reducible first | exact h_ | apply below_alloc | apply pw_below_drewN | apply below_drew1) | exact h_ | refine below_set ?_ (vo (by assumption)))) : Aside0 (Below w.heap.size w w1) := ⟨below_step (f h.out) hb⟩
theorem vn {w W : World} {g g' : Nat} {o : Obj} (hg : g' = W.heap.size) (h : Aside0 (w.heap[g]? = some o)) (f : w.heap[g]? = some o → W.heap[g]? = some o := by intro hq_; (with_reducible repeat (first | refine blk_drewN ?_ _ | refine blk_drew ?_ | refine blk_alloc ?_ _)); exact hq_) : Aside0 (g ≠ g') := ⟨by rw [hg]; exact Nat.ne_of_lt (blk_lt (f h.out))⟩
theorem vN {w W : World} {g g' : Nat} {o : Obj} (hg : g' = W.heap.size) (h : Aside0 (w.heap[g]? = some o)) (f : w.heap[g]? = some o → W.heap[g]? = some o := by intro hq_; (with_reducible repeat (first | refine blk_drewN ?_ _ | refine blk_drew ?_ | refine blk_alloc ?_ _)); exact hq_) : Aside0 (g' ≠ g) := ⟨by rw [hg]; exact Nat.ne_of_gt (blk_lt (f h.out))⟩
theorem vG {w W w1 : World} {g : Nat} {o : Obj} {row : Option Nat} (h : Aside0 (w.heap[g]? = some o)) (hg : W.grownBy w1 row) (hne : some g ≠ row) (f : w.heap[g]? = some o → W.heap[g]? = some o := by intro hq_; (with_reducible repeat (first | refine blk_drewN ?_ _ | refine blk_drew ?_ | refine blk_alloc ?_ _)); exact hq_) : Aside0 (w1.heap[g]? = some o) := ⟨blk_grown (f h.out) hg hne⟩
theorem vB {w W w1 : World} {g g' t : Nat} {cs : Array Value} (h : Aside0 (w.heap[g]? = some (.cells cs t (0, 0)))) (hn : Aside0 (g ≠ g')) (hb : Below W.heap.size W w1) (f : w.heap[g]? = some (.cells cs t (0, 0)) → g ≠ g' → W.heap[g]? = some (.cells cs t (0, 0)) := by intro h_ n_; repeat (first | exact h_ | (with_reducible first | refine blk_drewN ?_ _ | refine blk_drew ?_ | refine blk_alloc ?_ _) | refine blk_far ?_ n_ _)) : Aside0 (w1.heap[g]? = some (.cells cs t (0, 0))) := ⟨blk_below (f h.out hn.out) hb⟩
theorem vC {w W w1 : World} {g g' t : Nat} {cs : Array Value} (h : Aside0 (w.heap[g]? = some (.cells cs t (0, 0)))) (hn : Aside0 (g ≠ g')) (hw : w1 = W) (f : w.heap[g]? = some (.cells cs t (0, 0)) → g ≠ g' → W.heap[g]? = some (.cells cs t (0, 0)) := by intro h_ n_; repeat (first | exact h_ | (with_reducible first | refine blk_drewN ?_ _ | refine blk_drew ?_ | refine blk_alloc ?_ _) | refine blk_far ?_ n_ _)) : Aside0 (w1.heap[g]? = some (.cells cs t (0, 0))) := ⟨by rw [hw]; exact f h.out hn.out⟩
section
variable {α : Type} {d : Kd α} {e g t base : Nat} {w W w1 : World} {ok : Nat → Prop} {v : Value} {xs : List α} {cells : Array Value}
theorem vr (h : Aside0 (d.R e w base ok v xs)) (hb : Aside0 (w.heap[g]? = some (.cells cells t (0, 0)))) (ht : ∀ q, q ∈ e :: d.E → q ≠ t := by decide) (f : d.R e w base (fun k => ok k ∧ k ≠ g) v xs → d.R e W base (fun k => ok k ∧ k ≠ g) v xs := by intro h_; repeat (first | exact h_ | (with_reducible first | apply Kd.R_alloc | apply Kd.R_drewN | apply Kd.R_drew) | refine Kd.R_far ?_ (fun _ hk => hk.2) _)) : d.R e W base ok v xs := Kd.R_mono (f (Kd.R_types h.out hb.out ht)) (fun _ h_ => h_.1)
theorem vR (h : Aside0 (d.R e w base ok v xs)) (hb : Aside0 (w.heap[g]? = some (.cells cells t (0, 0)))) (hw : w1 = W) (ht : ∀ q, q ∈ e :: d.E → q ≠ t := by decide) (f : d.R e w base (fun k => ok k ∧ k ≠ g) v xs → d.R e W base (fun k => ok k ∧ k ≠ g) v xs := by intro h_; repeat (first | exact h_ | (with_reducible first | apply Kd.R_alloc | apply Kd.R_drewN | apply Kd.R_drew) | refine Kd.R_far ?_ (fun _ hk => hk.2) _)) : Aside0 (d.R e w1 base ok v xs) := ⟨by rw [hw]; exact Kd.R_mono (f (Kd.R_types h.out hb.out ht)) (fun _ h_ => h_.1)⟩
theorem vs (h : Aside0 (Kd.S d e w base ok v xs)) (hk : ∀ k, ok k → k ≠ g) (f : Kd.S d e w base (fun k => ok k ∧ k ≠ g) v xs → Kd.S d e W base (fun k => ok k ∧ k ≠ g) v xs := by intro h_; repeat (first | exact h_ | (with_reducible first | apply Kd.S_alloc | apply Kd.S_drewN | apply Kd.S_drew) | refine Kd.S_far ?_ (fun _ hk => hk.2) _)) : Kd.S d e W base ok v xs := Kd.S_mono (f (Kd.S_mono h.out (fun k h_ => ⟨h_, hk k h_⟩))) (fun _ h_ => h_.1)
theorem vrb (h : Aside0 (d.R e w base ok v xs)) (hb : Below W.heap.size W w1) (f : d.R e w base ok v xs → d.R e W base ok v xs := by intro hq_; (with_reducible repeat (first | apply Kd.R_alloc | apply Kd.R_drewN | apply Kd.R_drew)); exact hq_) : Aside0 (d.R e w1 base ok v xs) := ⟨Kd.R_below (f h.out) hb⟩
theorem vsb (h : Aside0 (Kd.S d e w base ok v xs)) (hb : Below W.heap.size W w1) (f : Kd.S d e w base ok v xs → Kd.S d e W base ok v xs := by intro hq_; (with_reducible repeat (first | apply Kd.S_alloc | apply Kd.S_drewN | apply Kd.S_drew)); exact hq_) : Aside0 (Kd.S d e w1 base ok v xs) := ⟨Kd.S_below (f h.out) hb⟩
theorem vt (h : Aside0 (Kd.N d e w base ok v xs)) (f : Kd.N d e w base ok v xs → Kd.N d e W base ok v xs := by intro hq_; (with_reducible repeat (first | apply Kd.N_alloc | apply Kd.N_drewN | apply Kd.N_drew)); exact hq_) : Kd.N d e W base ok v xs := f h.out
end
end Go.Proofs.Ytdnbpapolckklaa
namespace Go.Proofs.Ytdnbpapolckklaa
open Go Go.RowKit Go.Proofs.YtdnbpapolckklaaW.PrintWords Go.Proofs.YtdnbpapolckklaaW.PrintLast Go.Proofs.YtdnbpapolckklaaW.PrintMore
section
variable {α : Type} {d : Kd α} {w W0 W : World} {A : Option Addr} {n : Nat} {xs : List α}
theorem vd (h : d.C W0 A n xs) (f : d.C W0 A n xs → d.C W A n xs := by intro h_; repeat (first | exact h_ | (with_reducible refine Kd.C_alloc ?_ _) | (with_reducible refine Kd.C_drewN ?_ _) | (with_reducible refine Kd.C_drew ?_))) : d.C W A n xs := f h
theorem vc (h : Aside0 (d.C w A n xs)) (hb : Aside0 (Below w.heap.size w W0)) (f : d.C W0 A n xs → d.C W A n xs := by intro h_; repeat (first | exact h_ | (with_reducible refine Kd.C_alloc ?_ _) | (with_reducible refine Kd.C_drewN ?_ _) | (with_reducible refine Kd.C_drew ?_))) : d.C W A n xs := f (Kd.C_below h.out hb.out)
end
end Go.Proofs.Ytdnbpapolckklaa
