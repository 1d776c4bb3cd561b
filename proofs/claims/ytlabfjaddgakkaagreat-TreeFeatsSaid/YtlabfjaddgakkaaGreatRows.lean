/-
  NARROWER THAN 'FOR EVERY INPUT', by the rows' own cells (each row's printed sentence says how): TreeSame: loops · TreeBack: loops · TreeWrites: loops.
  DERIVED. THE GIVEN ROWS OF THIS SEAT. 4 by the template 'for every input the law returns true; each argument reads behind the call as it read before'; 0 by the template 'total and deterministic' (their statements: YtlabfjaddgakkaaGreatTotals.lean).
  GIVEN WITH THE SEED: the statements are not yours to turn. If you find one false, say at which input.
  Laid BY PROGRAM, IN A SANDBOX (cutbox-rows.mjs): the forced cells as the released guide's own fill.sh prints them over the translation ba120b5cdc2b87dc… (all of the seat's roots in one cut). By AI agents, Wed Nov 11 2026. No macro, syntax, notation, axiom, sorry.
-/
import Derived.Test.YtlabfjaddgakkaaGreatChecked
import GoSem.Claim
import GoSem.ClaimJoined
import GoSem.ClaimMapViews
import Derived.JoinedTies
import Derived.KernelRfl
namespace Go.Proofs.YtlabfjaddgakkaaGreat
/- THE CELL 'sum', in the pinned program and in every row, IS THE sha256 OF THE DUMP (.gsa) THAT YtlabfjaddgakkaaGreatProg.lean LOADS. Nothing in Lean hashes anything: it is a label: what it is worth is what the hold of that sum in a sandbox is worth. -/
noncomputable def Tryz.pinned : Pinned := { name := "ytlabfjaddgakkaagreat", sum := "ba120b5cdc2b87dcba8166f26ac4e39a445c4fee441383d9c0af3fcd8711c052", checked := Tryz.checked }
namespace Rows
def none {H : Type} : Left H := { results := [], args := [] }

/-- 'manystrandlaw02.TreeFeats': WHATEVER THE INPUT: true; the input reads as it did. -/
def treeFeatsSpec : ChangeSpec := { name := "treeFeats", fn := fun _ => fun
  | [d1, d2, d3] => { results := [.lit (.bool true)], args := [d1, d2, d3] }
  | _ => none }
def treeFeatsRow : OpenClaim := { program := "ytlabfjaddgakkaagreat", sum := "ba120b5cdc2b87dcba8166f26ac4e39a445c4fee441383d9c0af3fcd8711c052", func := "manystrand/manystrandlaw02.TreeFeats", spec := "treeFeats", unfollowed := true, recurses := true, plainKeys := false, apart := false }
def TreeFeatsSaid : Prop := treeFeatsRow.holds Tryz.pinned (OpenSpec.ofChange treeFeatsSpec)

/-- ITS FALSE NEIGHBOUR: 'it returns false'. Refute it at one input. -/
def treeFeatsWrong : ChangeSpec := { name := "treeFeats", fn := fun _ => fun
  | [d1, d2, d3] => { results := [.lit (.bool false)], args := [d1, d2, d3] }
  | _ => none }
def TreeFeatsWrongFalsely : Prop := treeFeatsRow.holds Tryz.pinned (OpenSpec.ofChange treeFeatsWrong)

/-- 'manystrandlaw02.TreeSame': WHATEVER THE INPUT: true; the input reads as it did. -/
def treeSameSpec : ChangeSpec := { name := "treeSame", fn := fun _ => fun
  | [d1, d2, d3] => { results := [.lit (.bool true)], args := [d1, d2, d3] }
  | _ => none }
def treeSameRow : OpenClaim := { program := "ytlabfjaddgakkaagreat", sum := "ba120b5cdc2b87dcba8166f26ac4e39a445c4fee441383d9c0af3fcd8711c052", func := "manystrand/manystrandlaw02.TreeSame", spec := "treeSame", unfollowed := true, recurses := true, loops := true, plainKeys := false, apart := false }
def TreeSameSaid : Prop := treeSameRow.holds Tryz.pinned (OpenSpec.ofChange treeSameSpec)

/-- ITS FALSE NEIGHBOUR: 'it returns false'. Refute it at one input. -/
def treeSameWrong : ChangeSpec := { name := "treeSame", fn := fun _ => fun
  | [d1, d2, d3] => { results := [.lit (.bool false)], args := [d1, d2, d3] }
  | _ => none }
def TreeSameWrongFalsely : Prop := treeSameRow.holds Tryz.pinned (OpenSpec.ofChange treeSameWrong)

/-- 'manystrandlaw02.TreeBack': WHATEVER THE INPUT: true; the input reads as it did. -/
def treeBackSpec : ChangeSpec := { name := "treeBack", fn := fun _ => fun
  | [d] => { results := [.lit (.bool true)], args := [d] }
  | _ => none }
def treeBackRow : OpenClaim := { program := "ytlabfjaddgakkaagreat", sum := "ba120b5cdc2b87dcba8166f26ac4e39a445c4fee441383d9c0af3fcd8711c052", func := "manystrand/manystrandlaw02.TreeBack", spec := "treeBack", unfollowed := true, recurses := true, loops := true, plainKeys := false, apart := false }
def TreeBackSaid : Prop := treeBackRow.holds Tryz.pinned (OpenSpec.ofChange treeBackSpec)

/-- ITS FALSE NEIGHBOUR: 'it returns false'. Refute it at one input. -/
def treeBackWrong : ChangeSpec := { name := "treeBack", fn := fun _ => fun
  | [d] => { results := [.lit (.bool false)], args := [d] }
  | _ => none }
def TreeBackWrongFalsely : Prop := treeBackRow.holds Tryz.pinned (OpenSpec.ofChange treeBackWrong)

/-- 'manystrandlaw02.TreeWrites': WHATEVER THE INPUT: true; the input reads as it did. -/
def treeWritesSpec : ChangeSpec := { name := "treeWrites", fn := fun _ => fun
  | [d] => { results := [.lit (.bool true)], args := [d] }
  | _ => none }
def treeWritesRow : OpenClaim := { program := "ytlabfjaddgakkaagreat", sum := "ba120b5cdc2b87dcba8166f26ac4e39a445c4fee441383d9c0af3fcd8711c052", func := "manystrand/manystrandlaw02.TreeWrites", spec := "treeWrites", unfollowed := true, recurses := true, loops := true, plainKeys := false, apart := false }
def TreeWritesSaid : Prop := treeWritesRow.holds Tryz.pinned (OpenSpec.ofChange treeWritesSpec)

/-- ITS FALSE NEIGHBOUR: 'it returns false'. Refute it at one input. -/
def treeWritesWrong : ChangeSpec := { name := "treeWrites", fn := fun _ => fun
  | [d] => { results := [.lit (.bool false)], args := [d] }
  | _ => none }
def TreeWritesWrongFalsely : Prop := treeWritesRow.holds Tryz.pinned (OpenSpec.ofChange treeWritesWrong)

/- THE SECOND FORM. 'bulk': how many values and letters a reading holds, each counted each time it is reached (what is shared counts as often as it is met; a slice's spare places count too). A statement '..UptoSaid' is the law's where the arguments, and the package variables that the reading takes, are together of bulk at most 1048576: NARROWER than '..Said'. Prove '..Said' where nothing that the law and all that it calls make is longer than what came in: it says more and counts as full. Else prove '..UptoSaid'. A law counts once. -/
mutual
def uptoBulk {H : Type} : DataW H → Nat
  | .lit (.string bytes) => bytes.length + 1
  | .lit _ => 1
  | .nil => 1
  | .ptr d => uptoBulk d + 1
  | .slice elems spare => uptoBulkAll elems + uptoBulkAll spare + 1
  | .agg parts => uptoBulkAll parts + 1
  | .iface _ d => uptoBulk d + 1
  | .map entries => uptoBulkEntries entries + 1
  | .held _ => 1
def uptoBulkAll {H : Type} : List (DataW H) → Nat
  | [] => 0
  | d :: r => uptoBulk d + uptoBulkAll r
def uptoBulkEntries {H : Type} : List (Lit × DataW H) → Nat
  | [] => 0
  | x :: r => uptoBulkEntry x + uptoBulkEntries r
def uptoBulkEntry {H : Type} : Lit × DataW H → Nat
  | (.string bytes, d) => bytes.length + uptoBulk d + 1
  | (_, d) => uptoBulk d + 1
 end
def uptoSmall : (H : Type) → List (DataW H) → Bool := fun _ ds => decide (uptoBulkAll ds ≤ 1048576)
def OpenSpec.upto (s : _root_.Go.ChangeSpec) : _root_.Go.OpenSpec := { _root_.Go.OpenSpec.ofChange s with cond := some uptoSmall }

/-- 'manystrandlaw02.TreeFeats', WHERE WHAT IT READS IS OF BULK AT MOST 1048576: true; the input reads as it did. -/
def treeFeatsUptoRow : OpenClaim := { program := "ytlabfjaddgakkaagreat", sum := "ba120b5cdc2b87dcba8166f26ac4e39a445c4fee441383d9c0af3fcd8711c052", func := "manystrand/manystrandlaw02.TreeFeats", spec := "treeFeats", unfollowed := true, recurses := true, plainKeys := false, apart := false, narrowed := true }
def TreeFeatsUptoSaid : Prop := treeFeatsUptoRow.holds Tryz.pinned (OpenSpec.upto treeFeatsSpec)

/-- 'manystrandlaw02.TreeSame', WHERE WHAT IT READS IS OF BULK AT MOST 1048576: true; the input reads as it did. -/
def treeSameUptoRow : OpenClaim := { program := "ytlabfjaddgakkaagreat", sum := "ba120b5cdc2b87dcba8166f26ac4e39a445c4fee441383d9c0af3fcd8711c052", func := "manystrand/manystrandlaw02.TreeSame", spec := "treeSame", unfollowed := true, recurses := true, loops := true, plainKeys := false, apart := false, narrowed := true }
def TreeSameUptoSaid : Prop := treeSameUptoRow.holds Tryz.pinned (OpenSpec.upto treeSameSpec)

/-- 'manystrandlaw02.TreeBack', WHERE WHAT IT READS IS OF BULK AT MOST 1048576: true; the input reads as it did. -/
def treeBackUptoRow : OpenClaim := { program := "ytlabfjaddgakkaagreat", sum := "ba120b5cdc2b87dcba8166f26ac4e39a445c4fee441383d9c0af3fcd8711c052", func := "manystrand/manystrandlaw02.TreeBack", spec := "treeBack", unfollowed := true, recurses := true, loops := true, plainKeys := false, apart := false, narrowed := true }
def TreeBackUptoSaid : Prop := treeBackUptoRow.holds Tryz.pinned (OpenSpec.upto treeBackSpec)

/-- 'manystrandlaw02.TreeWrites', WHERE WHAT IT READS IS OF BULK AT MOST 1048576: true; the input reads as it did. -/
def treeWritesUptoRow : OpenClaim := { program := "ytlabfjaddgakkaagreat", sum := "ba120b5cdc2b87dcba8166f26ac4e39a445c4fee441383d9c0af3fcd8711c052", func := "manystrand/manystrandlaw02.TreeWrites", spec := "treeWrites", unfollowed := true, recurses := true, loops := true, plainKeys := false, apart := false, narrowed := true }
def TreeWritesUptoSaid : Prop := treeWritesUptoRow.holds Tryz.pinned (OpenSpec.upto treeWritesSpec)

end Rows
end Go.Proofs.YtlabfjaddgakkaaGreat
