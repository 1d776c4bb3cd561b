import Derived.Test.YtgbielhbjgipoaaEvBase
import Derived.Test.YtgbielhbjgipoaaQ18
/-! The statements' own example is true. -/
namespace Go.Proofs.Ytgbielhbjgipoaa.Pure
set_option linter.unusedVariables false
set_option linter.unusedSimpArgs false
open Go.RowKit Go.Proofs.YtgbielhbjgipoaaW.PrintWords Go.Proofs.Ytgbielhbjgipoaa.Q
theorem awake_ev : Ev (fun k => manystrandlaw01_awake.f k) true :=
  Ev.of manystrandlaw01_awake.mono (k := 30) (by decide +kernel)
end Go.Proofs.Ytgbielhbjgipoaa.Pure
