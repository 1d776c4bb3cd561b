/-
  NARROWER THAN 'FOR EVERY INPUT', by the rows' own cells (each row's printed sentence says how): NeedsGrow: loops · NeedsAlike: loops.
  DERIVED. THE GIVEN ROWS OF THIS SEAT. 3 by the template 'for every input the law returns true; each argument reads behind the call as it read before'; 0 by the template 'total and deterministic' (their statements: YtelmcnngocklfaaTotals.lean).
  GIVEN WITH THE SEED: the statements are not yours to turn. If you find one false, say at which input.
  Laid BY PROGRAM, IN A SANDBOX (cutbox-rows.mjs): the forced cells as the released guide's own fill.sh prints them over the translation 584c259dafa78841… (all of the seat's roots in one cut). By AI agents, Wed Nov 11 2026. No macro, syntax, notation, axiom, sorry.
-/
import Derived.Test.YtelmcnngocklfaaChecked
import GoSem.Claim
import GoSem.ClaimJoined
import GoSem.ClaimMapViews
import Derived.JoinedTies
import Derived.KernelRfl
namespace Go.Proofs.Ytelmcnngocklfaa
/- THE CELL 'sum', in the pinned program and in every row, IS THE sha256 OF THE DUMP (.gsa) THAT YtelmcnngocklfaaProg.lean LOADS. Nothing in Lean hashes anything: it is a label: what it is worth is what the hold of that sum in a sandbox is worth. -/
noncomputable def Try.pinned : Pinned := { name := "ytelmcnngocklfaa", sum := "584c259dafa7884190a688341694de22a96cf0cf52ef34d94c9588116b40cddb", checked := Try.checked }
namespace Rows
def none {H : Type} : Left H := { results := [], args := [] }

/-- 'manystrandlaw04.NeedsGrow': WHATEVER THE INPUT: true; the input reads as it did. -/
def needsGrowSpec : ChangeSpec := { name := "needsGrow", fn := fun _ => fun
  | [d1, d2] => { results := [.lit (.bool true)], args := [d1, d2] }
  | _ => none }
def needsGrowRow : OpenClaim := { program := "ytelmcnngocklfaa", sum := "584c259dafa7884190a688341694de22a96cf0cf52ef34d94c9588116b40cddb", func := "manystrand/manystrandlaw04.NeedsGrow", spec := "needsGrow", unfollowed := true, recurses := true, loops := true, apart := false }
def NeedsGrowSaid : Prop := needsGrowRow.holds Try.pinned (OpenSpec.ofChange needsGrowSpec)

/-- ITS FALSE NEIGHBOUR: 'it returns false'. Refute it at one input. -/
def needsGrowWrong : ChangeSpec := { name := "needsGrow", fn := fun _ => fun
  | [d1, d2] => { results := [.lit (.bool false)], args := [d1, d2] }
  | _ => none }
def NeedsGrowWrongFalsely : Prop := needsGrowRow.holds Try.pinned (OpenSpec.ofChange needsGrowWrong)

/-- 'manystrandlaw04.NeedsAlike': WHATEVER THE INPUT: true; the input reads as it did. -/
def needsAlikeSpec : ChangeSpec := { name := "needsAlike", fn := fun _ => fun
  | [d] => { results := [.lit (.bool true)], args := [d] }
  | _ => none }
def needsAlikeRow : OpenClaim := { program := "ytelmcnngocklfaa", sum := "584c259dafa7884190a688341694de22a96cf0cf52ef34d94c9588116b40cddb", func := "manystrand/manystrandlaw04.NeedsAlike", spec := "needsAlike", unfollowed := true, recurses := true, loops := true, apart := false }
def NeedsAlikeSaid : Prop := needsAlikeRow.holds Try.pinned (OpenSpec.ofChange needsAlikeSpec)

/-- ITS FALSE NEIGHBOUR: 'it returns false'. Refute it at one input. -/
def needsAlikeWrong : ChangeSpec := { name := "needsAlike", fn := fun _ => fun
  | [d] => { results := [.lit (.bool false)], args := [d] }
  | _ => none }
def NeedsAlikeWrongFalsely : Prop := needsAlikeRow.holds Try.pinned (OpenSpec.ofChange needsAlikeWrong)

/-- 'manystrandlaw04.NeedsOf': WHATEVER THE INPUT: true; the input reads as it did. -/
def needsOfSpec : ChangeSpec := { name := "needsOf", fn := fun _ => fun
  | [d] => { results := [.lit (.bool true)], args := [d] }
  | _ => none }
def needsOfRow : OpenClaim := { program := "ytelmcnngocklfaa", sum := "584c259dafa7884190a688341694de22a96cf0cf52ef34d94c9588116b40cddb", func := "manystrand/manystrandlaw04.NeedsOf", spec := "needsOf", unfollowed := true, recurses := true, apart := false }
def NeedsOfSaid : Prop := needsOfRow.holds Try.pinned (OpenSpec.ofChange needsOfSpec)

/-- ITS FALSE NEIGHBOUR: 'it returns false'. Refute it at one input. -/
def needsOfWrong : ChangeSpec := { name := "needsOf", fn := fun _ => fun
  | [d] => { results := [.lit (.bool false)], args := [d] }
  | _ => none }
def NeedsOfWrongFalsely : Prop := needsOfRow.holds Try.pinned (OpenSpec.ofChange needsOfWrong)

/- THE SECOND FORM. 'bulk': how many values and letters a reading holds, each counted each time it is reached (what is shared counts as often as it is met; a slice's spare places count too). A statement '..UptoSaid' is the law's where the arguments, and the package variables that the reading takes, are together of bulk at most 1048576: NARROWER than '..Said'. Prove '..Said' where nothing that the law and all that it calls make is longer than what came in: it says more and counts as full. Else prove '..UptoSaid'. A law counts once. -/
mutual
def uptoBulk {H : Type} : DataW H → Nat
  | .lit (.string bytes) => bytes.length + 1
  | .lit _ => 1
  | .nil => 1
  | .ptr d => uptoBulk d + 1
  | .slice elems spare => uptoBulkAll elems + uptoBulkAll spare + 1
  | .agg parts => uptoBulkAll parts + 1
  | .iface _ d => uptoBulk d + 1
  | .map entries => uptoBulkEntries entries + 1
  | .held _ => 1
def uptoBulkAll {H : Type} : List (DataW H) → Nat
  | [] => 0
  | d :: r => uptoBulk d + uptoBulkAll r
def uptoBulkEntries {H : Type} : List (Lit × DataW H) → Nat
  | [] => 0
  | x :: r => uptoBulkEntry x + uptoBulkEntries r
def uptoBulkEntry {H : Type} : Lit × DataW H → Nat
  | (.string bytes, d) => bytes.length + uptoBulk d + 1
  | (_, d) => uptoBulk d + 1
 end
def uptoSmall : (H : Type) → List (DataW H) → Bool := fun _ ds => decide (uptoBulkAll ds ≤ 1048576)
def OpenSpec.upto (s : _root_.Go.ChangeSpec) : _root_.Go.OpenSpec := { _root_.Go.OpenSpec.ofChange s with cond := some uptoSmall }

/-- 'manystrandlaw04.NeedsGrow', WHERE WHAT IT READS IS OF BULK AT MOST 1048576: true; the input reads as it did. -/
def needsGrowUptoRow : OpenClaim := { program := "ytelmcnngocklfaa", sum := "584c259dafa7884190a688341694de22a96cf0cf52ef34d94c9588116b40cddb", func := "manystrand/manystrandlaw04.NeedsGrow", spec := "needsGrow", unfollowed := true, recurses := true, loops := true, apart := false, narrowed := true }
def NeedsGrowUptoSaid : Prop := needsGrowUptoRow.holds Try.pinned (OpenSpec.upto needsGrowSpec)

/-- 'manystrandlaw04.NeedsAlike', WHERE WHAT IT READS IS OF BULK AT MOST 1048576: true; the input reads as it did. -/
def needsAlikeUptoRow : OpenClaim := { program := "ytelmcnngocklfaa", sum := "584c259dafa7884190a688341694de22a96cf0cf52ef34d94c9588116b40cddb", func := "manystrand/manystrandlaw04.NeedsAlike", spec := "needsAlike", unfollowed := true, recurses := true, loops := true, apart := false, narrowed := true }
def NeedsAlikeUptoSaid : Prop := needsAlikeUptoRow.holds Try.pinned (OpenSpec.upto needsAlikeSpec)

/-- 'manystrandlaw04.NeedsOf', WHERE WHAT IT READS IS OF BULK AT MOST 1048576: true; the input reads as it did. -/
def needsOfUptoRow : OpenClaim := { program := "ytelmcnngocklfaa", sum := "584c259dafa7884190a688341694de22a96cf0cf52ef34d94c9588116b40cddb", func := "manystrand/manystrandlaw04.NeedsOf", spec := "needsOf", unfollowed := true, recurses := true, apart := false, narrowed := true }
def NeedsOfUptoSaid : Prop := needsOfUptoRow.holds Try.pinned (OpenSpec.upto needsOfSpec)

end Rows
end Go.Proofs.Ytelmcnngocklfaa
