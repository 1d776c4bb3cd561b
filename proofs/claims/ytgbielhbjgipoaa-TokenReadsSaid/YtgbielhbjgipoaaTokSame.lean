import Derived.Test.YtgbielhbjgipoaaEvBase
import Derived.Test.YtgbielhbjgipoaaQ38
/-! A list of tokens is the same as itself. -/
namespace Go.Proofs.Ytgbielhbjgipoaa.Pure
set_option linter.unusedVariables false
set_option linter.unusedSimpArgs false
open Go.RowKit Go.Proofs.YtgbielhbjgipoaaW.PrintWords Go.Proofs.YtgbielhbjgipoaaW.PrintLast Go.Proofs.YtgbielhbjgipoaaW.PrintMore Go.Proofs.Ytgbielhbjgipoaa.Q
theorem same_ev (l : List S29) (hl : l.length ≤ 1000000000) : Ev (fun k => manystrandref01_Same.f k l l) true := by
  unfold manystrandref01_Same.f
  refine ev_pos rfl ?_
  have key : ∀ (n : Nat) (i : Int), 0 ≤ i → i + n = l.length → Ev (fun k => manystrandref01_Same.l0 k l l i) true := by
    intro n
    induction n with
    | zero =>
      intro i _ h
      refine Ev.step (fun k => by rw [manystrandref01_Same.l0]) ?_
      exact ev_neg (by omega) (ev_now rfl)
    | succ n ih =>
      intro i h0 h
      refine Ev.step (fun k => by rw [manystrandref01_Same.l0]) ?_
      refine ev_pos (by omega) (ev_pos h0 (ev_pos (by omega) (ev_neg (by simp) ?_)))
      have e : wrap64 (i + 1) = i + 1 := by unfold wrap64; omega
      rw [e]
      exact ih (i + 1) (by omega) (by omega)
  exact key l.length 0 (by omega) (by omega)
end Go.Proofs.Ytgbielhbjgipoaa.Pure
