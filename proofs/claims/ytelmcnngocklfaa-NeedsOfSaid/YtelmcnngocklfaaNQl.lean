import Derived.Test.YtelmcnngocklfaaQuietLast
import Derived.Test.YtelmcnngocklfaaRegCl
/-! A region that draws its order: all but the last operation leave what lay there. -/
namespace Go.Proofs.Ytelmcnngocklfaa.QuietLast
set_option linter.unusedVariables false
set_option linter.unusedSimpArgs false
open Go Go.RowKit Go.Proofs.YtelmcnngocklfaaW.PrintWords
section
variable {P : Program} {ops : Array Oper} {md : Region.Mode}
/-- One walk of the order of the text, then the last operation, in the world after some draws. -/
theorem wp_region_qlastC {id : Nat} {Q : Exit → Act → World → Prop} {a : Act} {w : World} {L : List Oper} (hm : P.follows .mixedOrders = true) (hB : lastB L = true)
    (h : wpQuiet P L.toArray (fun w' => ∃ x : RegCl.Cl w, w' = x.v) (fun a' => ∀ x : RegCl.Cl w, wpList P L.toArray Q (lastL L) a' x.v) (initL L) a) : (Code.region id L.toArray true).wp P Q a w := by
  simp only [lastB, Bool.and_eq_true, Bool.not_eq_true', List.isEmpty_eq_false_iff] at hB
  obtain ⟨⟨⟨hne, hs⟩, hcov⟩, hlex⟩ := hB
  obtain ⟨c, hc⟩ := last_some L hne
  have hL : initL L ++ [c] = L := by rw [← hc]; exact init_last L
  have hsz : L.toArray.size = (initL L).length + 1 := by
    have := congrArg List.length hL
    simp only [List.length_append, List.length_singleton] at this
    simpa using this.symm
  have hget : L.toArray[(initL L).length]? = some c := by
    have : L[(initL L).length]? = some c := by
      have h5 : (initL L ++ [c])[(initL L).length]? = some c := List.getElem?_concat_length
      rw [hL] at h5
      exact h5
    simpa using this
  refine wp_region_any hm ?_
  have := wpAnyL_lex (P := P) (C := fun w' => ∃ x : RegCl.Cl w, w' = x.v) (md := .any) (c := (initL L).length) hs hcov (initL L) 0 (Array.replicate L.toArray.size false) a (by simp) (fun j hj => by
      have h2 : L[j]? = (initL L)[j]? := by
        have h5 : (initL L ++ [c])[j]? = (initL L)[j]? := List.getElem?_append_left hj
        rw [hL] at h5
        exact h5
      simpa using h2.symm) (fun k ok hk hl => by
      have hlt := (Array.getElem?_eq_some_iff.1 hk).1
      exfalso
      have hlt' : k < L.length := by simpa using hlt
      simp [Array.getElem?_replicate, hlt'] at hl) hlex h
  have h3 := wpAny_of_L (Q' := Q) (fun a' w' hw' hq => (by
    obtain ⟨x, rfl⟩ := hw'
    have h4 := hq x
    rw [hc] at h4
    unfold wpOp
    simp only [hget]
    exact h4)) _ _ a { w with drawn := w.drawn + 1 } ⟨⟨w.drew, below_drew (Below.refl _ _)⟩, rfl⟩ this
  rw [← hsz] at h3
  exact h3
end
end Go.Proofs.Ytelmcnngocklfaa.QuietLast
