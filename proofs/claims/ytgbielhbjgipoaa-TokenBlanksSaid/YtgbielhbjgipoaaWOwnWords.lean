import Derived.Test.YtgbielhbjgipoaaWMore
/-! Own words of the walks: which cells there are does not change with a store; an empty text. -/
namespace Go.Proofs.YtgbielhbjgipoaaW.OwnWords
open Go.RowKit
theorem isSome_setCell (w : World) (p q : Addr) (x : Value) : ((w.setCell p x).cell? q).isSome = (w.cell? q).isSome := by
  by_cases h : p = q
  · subst h
    cases hc : w.cell? p with
    | none =>
      unfold World.setCell World.cell? at *
      simp only [Array.getElem?_modify, ↓reduceIte]
      cases hb : w.heap[p.block]? with
      | none => simp
      | some o =>
        cases o with
        | cells c t f =>
          simp only [hb, Option.map_some] at hc ⊢
          cases hs : p.spot.isSome with
          | true => simp
          | false => simp [hs] at hc ⊢; omega
        | _ => simp
    | some u => rw [World.cell?_setCell_same w p x hc]; rfl
  · rw [World.cell?_setCell_other w p q x h]
theorem isEmpty_bne (l : List UInt8) : l.isEmpty = !(l != []) := by cases l <;> rfl
end Go.Proofs.YtgbielhbjgipoaaW.OwnWords
