import Derived.Deep.QuietTactic
import Derived.BigQuiet
import Derived.Test.YtelmcnngocklfaaV
/-! A region that draws its order, whose operations only read and whose callees leave everything that was there: one walk of the order of the text, in every world that bears what was there. -/
namespace Go.Proofs.Ytelmcnngocklfaa.RegCl
set_option linter.unusedVariables false
set_option linter.unusedSimpArgs false
open Go.RowKit Go.Proofs.YtelmcnngocklfaaW.PrintWords
/-- A world that bears all that w bears. -/
structure Cl (w : World) where
  v : World
  b : Below w.heap.size w v
instance (w : World) : Nonempty (Cl w) := ⟨⟨w, Below.refl _ _⟩⟩
theorem wp_region_cl {P : Program} {id : Nat} {Q : Exit → Act → World → Prop} {a : Act} {w : World} {l : List Oper} (hm : P.follows .mixedOrders = true) (hB : Region.lexB .any l.toArray = true)
    (h : wpQuiet P l.toArray (fun w' => ∃ x : Cl w, w' = x.v) (fun a' => ∀ x : Cl w, Q .normal a' x.v) l a) : (Code.region id l.toArray true).wp P Q a w :=
  wp_region_quiet (C := fun w' => ∃ x : Cl w, w' = x.v) hm hB ⟨⟨w.drew, below_drew (Below.refl _ _)⟩, rfl⟩ (by
    have h' : (fun a' => ∀ w', (∃ x : Cl w, w' = x.v) → Q .normal a' w') = (fun a' => ∀ x : Cl w, Q .normal a' x.v) := by
      funext a'
      exact propext ⟨fun h x => h _ ⟨x, rfl⟩, fun h w' ⟨x, hx⟩ => hx ▸ h x⟩
    rw [h']
    simpa using h)
end Go.Proofs.Ytelmcnngocklfaa.RegCl
