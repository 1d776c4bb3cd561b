-- Walks of Go functions; the law's awake, walked by hand (own_print.py's SWAP 7).
import Derived.Test.YtelmcnngocklfaaNAwake
namespace Go.Proofs.Ytelmcnngocklfaa.Q
open Go.RowKit Go.Proofs.YtelmcnngocklfaaW.PrintWords Go.Proofs.YtelmcnngocklfaaW.PrintLast Go.Proofs.YtelmcnngocklfaaW.PrintMore
/-! ### manystrandlaw04_awake: function 7 -/
def manystrandlaw04_awake.f  : Option (Bool) := some true
theorem manystrandlaw04_awake.calls  (r : Bool) (w : World) (h : manystrandlaw04_awake.f  = some r) :
    Calls Try.prog 7 #[] w fun e w' => e = .returned (.bool r) ∧ Below w.heap.size w w' := by
  obtain rfl : true = r := Option.some.inj h
  exact Go.Proofs.Ytelmcnngocklfaa.Need.awake_walk w
end Go.Proofs.Ytelmcnngocklfaa.Q
