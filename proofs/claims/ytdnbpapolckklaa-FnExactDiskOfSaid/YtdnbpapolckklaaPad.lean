/- Small laws of the walk that the printed texts use: a store lets no cell come or go. -/
import Derived.WalkKit
import Derived.Laws.World
import Derived.Test.YtdnbpapolckklaaWWords
namespace Go.Proofs.Ytdnbpapolckklaa.Pad
open Go.RowKit

theorem isSome_setCell (w : World) (p q : Addr) (x : Value) : ((w.setCell p x).cell? q).isSome = (w.cell? q).isSome := by
  by_cases e : p = q
  · subst e
    cases h : w.cell? p with
    | some u => rw [World.cell?_setCell_same w p x h]; rfl
    | none =>
      simp only [World.cell?] at h
      simp only [World.setCell, World.cell?, Array.getElem?_modify, if_true]
      cases hh : w.heap[p.block]? with
      | none => simp
      | some o =>
        rw [hh] at h
        cases o with
        | cells c t fr =>
          simp only [Option.map_some]
          by_cases hs : p.spot.isSome = true
          · simp [hs]
          · simp only [hs] at h ⊢
            simpa using h
        | _ => simp
  · rw [World.cell?_setCell_other w p q x e]
end Go.Proofs.Ytdnbpapolckklaa.Pad

/-! Phrases of the printed texts as small laws: each proves itself where it stands by the steps of its default. -/
namespace Go.Proofs.Ytdnbpapolckklaa
open Go.RowKit Go.Proofs.YtdnbpapolckklaaW.PrintWords
set_option linter.unusedVariables false
theorem qb {p q : Prop} (hq : q) (f : q → p := by intro hq_; repeat (first | (with_reducible first | exact hq_ | apply below_alloc | apply pw_below_drewN | apply below_drew1) | exact hq_)) : p := f hq
theorem qb1 {p q a : Prop} (hq : q) (ha : a) (f : q → a → p := by intro hq_ ha_; repeat (first | (with_reducible first | exact hq_ | apply below_alloc | apply pw_below_drewN | apply below_drew1 | refine below_set ?_ ha_) | exact hq_)) : p := f hq ha
theorem qb2 {p q a b : Prop} (hq : q) (ha : a) (hb : b) (f : q → a → b → p := by intro hq_ ha_ hb_; repeat (first | (with_reducible first | exact hq_ | apply below_alloc | apply pw_below_drewN | apply below_drew1 | refine below_set ?_ ha_ | refine below_set ?_ hb_) | exact hq_)) : p := f hq ha hb
theorem qb3 {p q a b c : Prop} (hq : q) (ha : a) (hb : b) (hc : c) (f : q → a → b → c → p := by intro hq_ ha_ hb_ hc_; repeat (first | (with_reducible first | exact hq_ | apply below_alloc | apply pw_below_drewN | apply below_drew1 | refine below_set ?_ ha_ | refine below_set ?_ hb_ | refine below_set ?_ hc_) | exact hq_)) : p := f hq ha hb hc
theorem qb4 {p q a b c d : Prop} (hq : q) (ha : a) (hb : b) (hc : c) (hd : d) (f : q → a → b → c → d → p := by intro hq_ ha_ hb_ hc_ hd_; repeat (first | (with_reducible first | exact hq_ | apply below_alloc | apply pw_below_drewN | apply below_drew1 | refine below_set ?_ ha_ | refine below_set ?_ hb_ | refine below_set ?_ hc_ | refine below_set ?_ hd_) | exact hq_)) : p := f hq ha hb hc hd
theorem qk {p q : Prop} (hq : q) (f : q → p := by intro hq_; (with_reducible repeat (first | refine blk_drewN ?_ _ | refine blk_drew ?_ | refine blk_alloc ?_ _)); exact hq_) : p := f hq
theorem qr {p q : Prop} (hq : q) (f : q → p := by intro hq_; (with_reducible repeat (first | apply Kd.R_alloc | apply Kd.R_drewN | apply Kd.R_drew)); exact hq_) : p := f hq
theorem qs {p q : Prop} (hq : q) (f : q → p := by intro hq_; (with_reducible repeat (first | apply Kd.S_alloc | apply Kd.S_drewN | apply Kd.S_drew)); exact hq_) : p := f hq
theorem qK {p q : Prop} (hq : q) (f : q → p := by intro hq_; (with_reducible repeat (first | refine blk_drewN ?_ _ | refine blk_drew ?_ | refine blk_alloc ?_ _)); exact hq_) : p := f hq
theorem qR {p q : Prop} (hq : q) (f : q → p := by intro hq_; (with_reducible repeat (first | apply Kd.R_alloc | apply Kd.R_drewN | apply Kd.R_drew)); exact hq_) : p := f hq
theorem qS {p q : Prop} (hq : q) (f : q → p := by intro hq_; (with_reducible repeat (first | apply Kd.S_alloc | apply Kd.S_drewN | apply Kd.S_drew)); exact hq_) : p := f hq
theorem qp {p q : Prop} (hq : q) (f : q → p := by intro hq_; simp only [Act.put, List.setIfInBounds_toArray, List.set_cons_zero, List.set_cons_succ, i64_w, i32_w, IntKind.wrap_u8, IntKind.wrap_u32]; exact hq_) : p := f hq
theorem qh {p q : Prop} (hq : q) (f : q → p := by intro hq_; repeat (first | (with_reducible first | exact hq_ | apply KeepBut.set_ | apply keep_drewN | apply keep_drew | apply keep_alloc) | exact hq_)) : p := f hq
theorem qh1 {p q a : Prop} (hq : q) (ha : a) (f : q → a → p := by intro hq_ ha_; repeat (first | (with_reducible first | exact hq_ | apply KeepBut.set_ | apply keep_drewN | apply keep_drew | apply keep_alloc | refine keep_far ?_ ha_ _) | exact hq_)) : p := f hq ha
theorem qh2 {p q a b : Prop} (hq : q) (ha : a) (hb : b) (f : q → a → b → p := by intro hq_ ha_ hb_; repeat (first | (with_reducible first | exact hq_ | apply KeepBut.set_ | apply keep_drewN | apply keep_drew | apply keep_alloc | refine keep_far ?_ ha_ _ | refine keep_far ?_ hb_ _) | exact hq_)) : p := f hq ha hb
theorem qh3 {p q a b c : Prop} (hq : q) (ha : a) (hb : b) (hc : c) (f : q → a → b → c → p := by intro hq_ ha_ hb_ hc_; repeat (first | (with_reducible first | exact hq_ | apply KeepBut.set_ | apply keep_drewN | apply keep_drew | apply keep_alloc | refine keep_far ?_ ha_ _ | refine keep_far ?_ hb_ _ | refine keep_far ?_ hc_ _) | exact hq_)) : p := f hq ha hb hc
theorem qh4 {p q a b c d : Prop} (hq : q) (ha : a) (hb : b) (hc : c) (hd : d) (f : q → a → b → c → d → p := by intro hq_ ha_ hb_ hc_ hd_; repeat (first | (with_reducible first | exact hq_ | apply KeepBut.set_ | apply keep_drewN | apply keep_drew | apply keep_alloc | refine keep_far ?_ ha_ _ | refine keep_far ?_ hb_ _ | refine keep_far ?_ hc_ _ | refine keep_far ?_ hd_ _) | exact hq_)) : p := f hq ha hb hc hd
theorem qa {p : Prop} (h : p := by first | (with_reducible assumption) | assumption) : p := h
theorem qo {p : Prop} [Decidable p] (h : decide p = true := by first | (with_reducible assumption) | assumption) : p := of_decide_eq_true h
theorem qm {p : Prop} (h : p := by (try simp only [List.map_toArray, List.map_cons, List.map_nil]); first | done | rfl | (simp only [List.length_drop, List.length_take]; rfl)) : p := h
theorem qz {p : Prop} (h : p := by first | rfl | (simp; done) | (simp [*]; done) | (simp; generalize ByteArray.toList _ = l_; cases l_ <;> rfl)) : p := h
theorem qe {p : Prop} (h : p := by first | rfl | (simp [errW_none, errW_some] <;> rfl) | (simp [*, errW_none, errW_some] <;> rfl)) : p := h
theorem qd {p : Prop} (h : p := by repeat (first | exact Drawn0.refl _ | apply Drawn0.step)) : p := h
theorem qc {w wr : World} {p : Addr} {v : Value} (hb : Below w.heap.size w wr) (hx : w.cell? p = some v) : wr.cell? p = some v := (hb.cell (World.block_lt_of_cell? w _ hx)).trans hx
end Go.Proofs.Ytdnbpapolckklaa
