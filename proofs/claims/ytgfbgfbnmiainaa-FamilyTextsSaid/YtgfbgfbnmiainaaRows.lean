/-
  No cell of these rows narrows 'for every input' (looked for: loops, veiled, ifaces, maps, wideKeys, modest, calm, conditions, laid).
  DERIVED. THE GIVEN ROWS OF THIS SEAT. 5 by the template 'for every input the law returns true; each argument reads behind the call as it read before'; 0 by the template 'total and deterministic' (their statements: YtgfbgfbnmiainaaTotals.lean).
  GIVEN WITH THE SEED: the statements are not yours to turn. If you find one false, say at which input.
  Laid BY PROGRAM, IN A SANDBOX (cutbox-rows.mjs): the forced cells as the released guide's own fill.sh prints them over the translation 34e40f2eb86f83d7… (all of the seat's roots in one cut). By AI agents, Wed Nov 11 2026. No macro, syntax, notation, axiom, sorry.
-/
import Derived.Test.YtgfbgfbnmiainaaChecked
import GoSem.Claim
import GoSem.ClaimJoined
import GoSem.ClaimMapViews
import Derived.JoinedTies
import Derived.KernelRfl
namespace Go.Proofs.Ytgfbgfbnmiainaa
/- THE CELL 'sum', in the pinned program and in every row, IS THE sha256 OF THE DUMP (.gsa) THAT YtgfbgfbnmiainaaProg.lean LOADS. Nothing in Lean hashes anything: it is a label: what it is worth is what the hold of that sum in a sandbox is worth. -/
noncomputable def Try.pinned : Pinned := { name := "ytgfbgfbnmiainaa", sum := "34e40f2eb86f83d756484c7693d6cbdd0280275391c36ce7324e0db19e1d62d5", checked := Try.checked }
namespace Rows
def none {H : Type} : Left H := { results := [], args := [] }

/-- 'manystrandlaw07.FamilyFixes': WHATEVER THE INPUT: true; the input reads as it did. -/
def familyFixesSpec : ChangeSpec := { name := "familyFixes", fn := fun _ => fun
  | [d1, d2, d3, d4] => { results := [.lit (.bool true)], args := [d1, d2, d3, d4] }
  | _ => none }
def familyFixesRow : OpenClaim := { program := "ytgfbgfbnmiainaa", sum := "34e40f2eb86f83d756484c7693d6cbdd0280275391c36ce7324e0db19e1d62d5", func := "manystrand/manystrandlaw07.FamilyFixes", spec := "familyFixes", apart := false }
def FamilyFixesSaid : Prop := familyFixesRow.holds Try.pinned (OpenSpec.ofChange familyFixesSpec)

/-- ITS FALSE NEIGHBOUR: 'it returns false'. Refute it at one input. -/
def familyFixesWrong : ChangeSpec := { name := "familyFixes", fn := fun _ => fun
  | [d1, d2, d3, d4] => { results := [.lit (.bool false)], args := [d1, d2, d3, d4] }
  | _ => none }
def FamilyFixesWrongFalsely : Prop := familyFixesRow.holds Try.pinned (OpenSpec.ofChange familyFixesWrong)

/-- 'manystrandlaw07.FamilyTells': WHATEVER THE INPUT: true; the input reads as it did. -/
def familyTellsSpec : ChangeSpec := { name := "familyTells", fn := fun _ => fun
  | [d1, d2, d3] => { results := [.lit (.bool true)], args := [d1, d2, d3] }
  | _ => none }
def familyTellsRow : OpenClaim := { program := "ytgfbgfbnmiainaa", sum := "34e40f2eb86f83d756484c7693d6cbdd0280275391c36ce7324e0db19e1d62d5", func := "manystrand/manystrandlaw07.FamilyTells", spec := "familyTells", apart := false }
def FamilyTellsSaid : Prop := familyTellsRow.holds Try.pinned (OpenSpec.ofChange familyTellsSpec)

/-- ITS FALSE NEIGHBOUR: 'it returns false'. Refute it at one input. -/
def familyTellsWrong : ChangeSpec := { name := "familyTells", fn := fun _ => fun
  | [d1, d2, d3] => { results := [.lit (.bool false)], args := [d1, d2, d3] }
  | _ => none }
def FamilyTellsWrongFalsely : Prop := familyTellsRow.holds Try.pinned (OpenSpec.ofChange familyTellsWrong)

/-- 'manystrandlaw07.FamilyTexts': WHATEVER THE INPUT: true; the input reads as it did. -/
def familyTextsSpec : ChangeSpec := { name := "familyTexts", fn := fun _ => fun
  | [d1, d2] => { results := [.lit (.bool true)], args := [d1, d2] }
  | _ => none }
def familyTextsRow : OpenClaim := { program := "ytgfbgfbnmiainaa", sum := "34e40f2eb86f83d756484c7693d6cbdd0280275391c36ce7324e0db19e1d62d5", func := "manystrand/manystrandlaw07.FamilyTexts", spec := "familyTexts", recurses := true, apart := false }
def FamilyTextsSaid : Prop := familyTextsRow.holds Try.pinned (OpenSpec.ofChange familyTextsSpec)

/-- ITS FALSE NEIGHBOUR: 'it returns false'. Refute it at one input. -/
def familyTextsWrong : ChangeSpec := { name := "familyTexts", fn := fun _ => fun
  | [d1, d2] => { results := [.lit (.bool false)], args := [d1, d2] }
  | _ => none }
def FamilyTextsWrongFalsely : Prop := familyTextsRow.holds Try.pinned (OpenSpec.ofChange familyTextsWrong)

/-- 'manystrandlaw07.FamilyHolds': WHATEVER THE INPUT: true; the input reads as it did. -/
def familyHoldsSpec : ChangeSpec := { name := "familyHolds", fn := fun _ => fun
  | [d1, d2] => { results := [.lit (.bool true)], args := [d1, d2] }
  | _ => none }
def familyHoldsRow : OpenClaim := { program := "ytgfbgfbnmiainaa", sum := "34e40f2eb86f83d756484c7693d6cbdd0280275391c36ce7324e0db19e1d62d5", func := "manystrand/manystrandlaw07.FamilyHolds", spec := "familyHolds", unfollowed := true, recurses := true, apart := false }
def FamilyHoldsSaid : Prop := familyHoldsRow.holds Try.pinned (OpenSpec.ofChange familyHoldsSpec)

/-- ITS FALSE NEIGHBOUR: 'it returns false'. Refute it at one input. -/
def familyHoldsWrong : ChangeSpec := { name := "familyHolds", fn := fun _ => fun
  | [d1, d2] => { results := [.lit (.bool false)], args := [d1, d2] }
  | _ => none }
def FamilyHoldsWrongFalsely : Prop := familyHoldsRow.holds Try.pinned (OpenSpec.ofChange familyHoldsWrong)

/-- 'manystrandlaw07.FamilyKeeps': WHATEVER THE INPUT: true; the input reads as it did. -/
def familyKeepsSpec : ChangeSpec := { name := "familyKeeps", fn := fun _ => fun
  | [d1, d2, d3] => { results := [.lit (.bool true)], args := [d1, d2, d3] }
  | _ => none }
def familyKeepsRow : OpenClaim := { program := "ytgfbgfbnmiainaa", sum := "34e40f2eb86f83d756484c7693d6cbdd0280275391c36ce7324e0db19e1d62d5", func := "manystrand/manystrandlaw07.FamilyKeeps", spec := "familyKeeps", unfollowed := true, recurses := true, apart := false }
def FamilyKeepsSaid : Prop := familyKeepsRow.holds Try.pinned (OpenSpec.ofChange familyKeepsSpec)

/-- ITS FALSE NEIGHBOUR: 'it returns false'. Refute it at one input. -/
def familyKeepsWrong : ChangeSpec := { name := "familyKeeps", fn := fun _ => fun
  | [d1, d2, d3] => { results := [.lit (.bool false)], args := [d1, d2, d3] }
  | _ => none }
def FamilyKeepsWrongFalsely : Prop := familyKeepsRow.holds Try.pinned (OpenSpec.ofChange familyKeepsWrong)

/- THE SECOND FORM. 'bulk': how many values and letters a reading holds, each counted each time it is reached (what is shared counts as often as it is met; a slice's spare places count too). A statement '..UptoSaid' is the law's where the arguments, and the package variables that the reading takes, are together of bulk at most 1048576: NARROWER than '..Said'. Prove '..Said' where nothing that the law and all that it calls make is longer than what came in: it says more and counts as full. Else prove '..UptoSaid'. A law counts once. -/
mutual
def uptoBulk {H : Type} : DataW H → Nat
  | .lit (.string bytes) => bytes.length + 1
  | .lit _ => 1
  | .nil => 1
  | .ptr d => uptoBulk d + 1
  | .slice elems spare => uptoBulkAll elems + uptoBulkAll spare + 1
  | .agg parts => uptoBulkAll parts + 1
  | .iface _ d => uptoBulk d + 1
  | .map entries => uptoBulkEntries entries + 1
  | .held _ => 1
def uptoBulkAll {H : Type} : List (DataW H) → Nat
  | [] => 0
  | d :: r => uptoBulk d + uptoBulkAll r
def uptoBulkEntries {H : Type} : List (Lit × DataW H) → Nat
  | [] => 0
  | x :: r => uptoBulkEntry x + uptoBulkEntries r
def uptoBulkEntry {H : Type} : Lit × DataW H → Nat
  | (.string bytes, d) => bytes.length + uptoBulk d + 1
  | (_, d) => uptoBulk d + 1
 end
def uptoSmall : (H : Type) → List (DataW H) → Bool := fun _ ds => decide (uptoBulkAll ds ≤ 1048576)
def OpenSpec.upto (s : _root_.Go.ChangeSpec) : _root_.Go.OpenSpec := { _root_.Go.OpenSpec.ofChange s with cond := some uptoSmall }

/-- 'manystrandlaw07.FamilyFixes', WHERE WHAT IT READS IS OF BULK AT MOST 1048576: true; the input reads as it did. -/
def familyFixesUptoRow : OpenClaim := { program := "ytgfbgfbnmiainaa", sum := "34e40f2eb86f83d756484c7693d6cbdd0280275391c36ce7324e0db19e1d62d5", func := "manystrand/manystrandlaw07.FamilyFixes", spec := "familyFixes", apart := false, narrowed := true }
def FamilyFixesUptoSaid : Prop := familyFixesUptoRow.holds Try.pinned (OpenSpec.upto familyFixesSpec)

/-- 'manystrandlaw07.FamilyTells', WHERE WHAT IT READS IS OF BULK AT MOST 1048576: true; the input reads as it did. -/
def familyTellsUptoRow : OpenClaim := { program := "ytgfbgfbnmiainaa", sum := "34e40f2eb86f83d756484c7693d6cbdd0280275391c36ce7324e0db19e1d62d5", func := "manystrand/manystrandlaw07.FamilyTells", spec := "familyTells", apart := false, narrowed := true }
def FamilyTellsUptoSaid : Prop := familyTellsUptoRow.holds Try.pinned (OpenSpec.upto familyTellsSpec)

/-- 'manystrandlaw07.FamilyTexts', WHERE WHAT IT READS IS OF BULK AT MOST 1048576: true; the input reads as it did. -/
def familyTextsUptoRow : OpenClaim := { program := "ytgfbgfbnmiainaa", sum := "34e40f2eb86f83d756484c7693d6cbdd0280275391c36ce7324e0db19e1d62d5", func := "manystrand/manystrandlaw07.FamilyTexts", spec := "familyTexts", recurses := true, apart := false, narrowed := true }
def FamilyTextsUptoSaid : Prop := familyTextsUptoRow.holds Try.pinned (OpenSpec.upto familyTextsSpec)

/-- 'manystrandlaw07.FamilyHolds', WHERE WHAT IT READS IS OF BULK AT MOST 1048576: true; the input reads as it did. -/
def familyHoldsUptoRow : OpenClaim := { program := "ytgfbgfbnmiainaa", sum := "34e40f2eb86f83d756484c7693d6cbdd0280275391c36ce7324e0db19e1d62d5", func := "manystrand/manystrandlaw07.FamilyHolds", spec := "familyHolds", unfollowed := true, recurses := true, apart := false, narrowed := true }
def FamilyHoldsUptoSaid : Prop := familyHoldsUptoRow.holds Try.pinned (OpenSpec.upto familyHoldsSpec)

/-- 'manystrandlaw07.FamilyKeeps', WHERE WHAT IT READS IS OF BULK AT MOST 1048576: true; the input reads as it did. -/
def familyKeepsUptoRow : OpenClaim := { program := "ytgfbgfbnmiainaa", sum := "34e40f2eb86f83d756484c7693d6cbdd0280275391c36ce7324e0db19e1d62d5", func := "manystrand/manystrandlaw07.FamilyKeeps", spec := "familyKeeps", unfollowed := true, recurses := true, apart := false, narrowed := true }
def FamilyKeepsUptoSaid : Prop := familyKeepsUptoRow.holds Try.pinned (OpenSpec.upto familyKeepsSpec)

end Rows
end Go.Proofs.Ytgfbgfbnmiainaa
