/- Small laws of the walk that the printed texts use: a store lets no cell come or go. -/
import Derived.WalkKit
import Derived.Laws.World
namespace Go.Proofs.Ytdnbpapolckklaa.Pad
open Go.RowKit

theorem isSome_setCell (w : World) (p q : Addr) (x : Value) : ((w.setCell p x).cell? q).isSome = (w.cell? q).isSome := by
  by_cases e : p = q
  · subst e
    cases h : w.cell? p with
    | some u => rw [World.cell?_setCell_same w p x h]; rfl
    | none =>
      simp only [World.cell?] at h
      simp only [World.setCell, World.cell?, Array.getElem?_modify, if_true]
      cases hh : w.heap[p.block]? with
      | none => simp
      | some o =>
        rw [hh] at h
        cases o with
        | cells c t fr =>
          simp only [Option.map_some]
          by_cases hs : p.spot.isSome = true
          · simp [hs]
          · simp only [hs] at h ⊢
            simpa using h
        | _ => simp
  · rw [World.cell?_setCell_other w p q x e]
end Go.Proofs.Ytdnbpapolckklaa.Pad
