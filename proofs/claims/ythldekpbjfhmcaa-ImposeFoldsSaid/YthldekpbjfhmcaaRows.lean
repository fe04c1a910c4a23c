/-
  No cell of these rows narrows 'for every input' (looked for: loops, veiled, ifaces, maps, wideKeys, modest, calm, conditions, laid).
  DERIVED. THE GIVEN ROWS OF THIS SEAT. 6 by the template 'for every input the law returns true; each argument reads behind the call as it read before'; 0 by the template 'total and deterministic' (their statements: YthldekpbjfhmcaaTotals.lean).
  GIVEN WITH THE SEED: the statements are not yours to turn. If you find one false, say at which input.
  Laid BY PROGRAM, IN A SANDBOX (cutbox-rows.mjs): the forced cells as the released guide's own fill.sh prints them over the translation cf9e757319282fec… (all of the seat's roots in one cut). By AI agents, Wed Nov 11 2026. No macro, syntax, notation, axiom, sorry.
-/
import Derived.Test.YthldekpbjfhmcaaChecked
import GoSem.Claim
import GoSem.ClaimJoined
import GoSem.ClaimMapViews
import Derived.JoinedTies
import Derived.KernelRfl
namespace Go.Proofs.Ythldekpbjfhmcaa
/- THE CELL 'sum', in the pinned program and in every row, IS THE sha256 OF THE DUMP (.gsa) THAT YthldekpbjfhmcaaProg.lean LOADS. Nothing in Lean hashes anything: it is a label: what it is worth is what the hold of that sum in a sandbox is worth. -/
noncomputable def Try.pinned : Pinned := { name := "ythldekpbjfhmcaa", sum := "cf9e757319282fece616ed6df1fa66379aec5c8c4d51f2d36b576ce48125c507", checked := Try.checked }
namespace Rows
def none {H : Type} : Left H := { results := [], args := [] }

/-- 'passimlaw14.ImposeReads': WHATEVER THE INPUT: true; the input reads as it did. -/
def imposeReadsSpec : ChangeSpec := { name := "imposeReads", fn := fun _ => fun
  | [d1, d2, d3, d4, d5, d6] => { results := [.lit (.bool true)], args := [d1, d2, d3, d4, d5, d6] }
  | _ => none }
def imposeReadsRow : OpenClaim := { program := "ythldekpbjfhmcaa", sum := "cf9e757319282fece616ed6df1fa66379aec5c8c4d51f2d36b576ce48125c507", func := "passim/passimlaw14.ImposeReads", spec := "imposeReads", unfollowed := true, recurses := true, apart := false }
def ImposeReadsSaid : Prop := imposeReadsRow.holds Try.pinned (OpenSpec.ofChange imposeReadsSpec)

/-- ITS FALSE NEIGHBOUR: 'it returns false'. Refute it at one input. -/
def imposeReadsWrong : ChangeSpec := { name := "imposeReads", fn := fun _ => fun
  | [d1, d2, d3, d4, d5, d6] => { results := [.lit (.bool false)], args := [d1, d2, d3, d4, d5, d6] }
  | _ => none }
def ImposeReadsWrongFalsely : Prop := imposeReadsRow.holds Try.pinned (OpenSpec.ofChange imposeReadsWrong)

/-- 'passimlaw14.ImposeLeaves': WHATEVER THE INPUT: true; the input reads as it did. -/
def imposeLeavesSpec : ChangeSpec := { name := "imposeLeaves", fn := fun _ => fun
  | [d1, d2] => { results := [.lit (.bool true)], args := [d1, d2] }
  | _ => none }
def imposeLeavesRow : OpenClaim := { program := "ythldekpbjfhmcaa", sum := "cf9e757319282fece616ed6df1fa66379aec5c8c4d51f2d36b576ce48125c507", func := "passim/passimlaw14.ImposeLeaves", spec := "imposeLeaves", unfollowed := true, recurses := true, apart := false }
def ImposeLeavesSaid : Prop := imposeLeavesRow.holds Try.pinned (OpenSpec.ofChange imposeLeavesSpec)

/-- ITS FALSE NEIGHBOUR: 'it returns false'. Refute it at one input. -/
def imposeLeavesWrong : ChangeSpec := { name := "imposeLeaves", fn := fun _ => fun
  | [d1, d2] => { results := [.lit (.bool false)], args := [d1, d2] }
  | _ => none }
def ImposeLeavesWrongFalsely : Prop := imposeLeavesRow.holds Try.pinned (OpenSpec.ofChange imposeLeavesWrong)

/-- 'passimlaw14.ImposeConjugates': WHATEVER THE INPUT: true; the input reads as it did. -/
def imposeConjugatesSpec : ChangeSpec := { name := "imposeConjugates", fn := fun _ => fun
  | [d1, d2, d3] => { results := [.lit (.bool true)], args := [d1, d2, d3] }
  | _ => none }
def imposeConjugatesRow : OpenClaim := { program := "ythldekpbjfhmcaa", sum := "cf9e757319282fece616ed6df1fa66379aec5c8c4d51f2d36b576ce48125c507", func := "passim/passimlaw14.ImposeConjugates", spec := "imposeConjugates", unfollowed := true, recurses := true, apart := false }
def ImposeConjugatesSaid : Prop := imposeConjugatesRow.holds Try.pinned (OpenSpec.ofChange imposeConjugatesSpec)

/-- ITS FALSE NEIGHBOUR: 'it returns false'. Refute it at one input. -/
def imposeConjugatesWrong : ChangeSpec := { name := "imposeConjugates", fn := fun _ => fun
  | [d1, d2, d3] => { results := [.lit (.bool false)], args := [d1, d2, d3] }
  | _ => none }
def ImposeConjugatesWrongFalsely : Prop := imposeConjugatesRow.holds Try.pinned (OpenSpec.ofChange imposeConjugatesWrong)

/-- 'passimlaw14.ImposeCancels': WHATEVER THE INPUT: true; the input reads as it did. -/
def imposeCancelsSpec : ChangeSpec := { name := "imposeCancels", fn := fun _ => fun
  | [d1, d2, d3, d4, d5] => { results := [.lit (.bool true)], args := [d1, d2, d3, d4, d5] }
  | _ => none }
def imposeCancelsRow : OpenClaim := { program := "ythldekpbjfhmcaa", sum := "cf9e757319282fece616ed6df1fa66379aec5c8c4d51f2d36b576ce48125c507", func := "passim/passimlaw14.ImposeCancels", spec := "imposeCancels", unfollowed := true, recurses := true, apart := false }
def ImposeCancelsSaid : Prop := imposeCancelsRow.holds Try.pinned (OpenSpec.ofChange imposeCancelsSpec)

/-- ITS FALSE NEIGHBOUR: 'it returns false'. Refute it at one input. -/
def imposeCancelsWrong : ChangeSpec := { name := "imposeCancels", fn := fun _ => fun
  | [d1, d2, d3, d4, d5] => { results := [.lit (.bool false)], args := [d1, d2, d3, d4, d5] }
  | _ => none }
def ImposeCancelsWrongFalsely : Prop := imposeCancelsRow.holds Try.pinned (OpenSpec.ofChange imposeCancelsWrong)

/-- 'passimlaw14.ImposeSides': WHATEVER THE INPUT: true; the input reads as it did. -/
def imposeSidesSpec : ChangeSpec := { name := "imposeSides", fn := fun _ => fun
  | [d1, d2] => { results := [.lit (.bool true)], args := [d1, d2] }
  | _ => none }
def imposeSidesRow : OpenClaim := { program := "ythldekpbjfhmcaa", sum := "cf9e757319282fece616ed6df1fa66379aec5c8c4d51f2d36b576ce48125c507", func := "passim/passimlaw14.ImposeSides", spec := "imposeSides", unfollowed := true, recurses := true, apart := false }
def ImposeSidesSaid : Prop := imposeSidesRow.holds Try.pinned (OpenSpec.ofChange imposeSidesSpec)

/-- ITS FALSE NEIGHBOUR: 'it returns false'. Refute it at one input. -/
def imposeSidesWrong : ChangeSpec := { name := "imposeSides", fn := fun _ => fun
  | [d1, d2] => { results := [.lit (.bool false)], args := [d1, d2] }
  | _ => none }
def ImposeSidesWrongFalsely : Prop := imposeSidesRow.holds Try.pinned (OpenSpec.ofChange imposeSidesWrong)

/-- 'passimlaw14.ImposeFolds': WHATEVER THE INPUT: true; the input reads as it did. -/
def imposeFoldsSpec : ChangeSpec := { name := "imposeFolds", fn := fun _ => fun
  | [d1, d2, d3, d4, d5, d6, d7] => { results := [.lit (.bool true)], args := [d1, d2, d3, d4, d5, d6, d7] }
  | _ => none }
def imposeFoldsRow : OpenClaim := { program := "ythldekpbjfhmcaa", sum := "cf9e757319282fece616ed6df1fa66379aec5c8c4d51f2d36b576ce48125c507", func := "passim/passimlaw14.ImposeFolds", spec := "imposeFolds", unfollowed := true, recurses := true, apart := false }
def ImposeFoldsSaid : Prop := imposeFoldsRow.holds Try.pinned (OpenSpec.ofChange imposeFoldsSpec)

/-- ITS FALSE NEIGHBOUR: 'it returns false'. Refute it at one input. -/
def imposeFoldsWrong : ChangeSpec := { name := "imposeFolds", fn := fun _ => fun
  | [d1, d2, d3, d4, d5, d6, d7] => { results := [.lit (.bool false)], args := [d1, d2, d3, d4, d5, d6, d7] }
  | _ => none }
def ImposeFoldsWrongFalsely : Prop := imposeFoldsRow.holds Try.pinned (OpenSpec.ofChange imposeFoldsWrong)

/- THE SECOND FORM. 'bulk': how many values and letters a reading holds, each counted each time it is reached (what is shared counts as often as it is met; a slice's spare places count too). A statement '..UptoSaid' is the law's where the arguments, and the package variables that the reading takes, are together of bulk at most 1048576: NARROWER than '..Said'. Prove '..Said' where nothing that the law and all that it calls make is longer than what came in: it says more and counts as full. Else prove '..UptoSaid'. A law counts once. -/
mutual
def uptoBulk {H : Type} : DataW H → Nat
  | .lit (.string bytes) => bytes.length + 1
  | .lit _ => 1
  | .nil => 1
  | .ptr d => uptoBulk d + 1
  | .slice elems spare => uptoBulkAll elems + uptoBulkAll spare + 1
  | .agg parts => uptoBulkAll parts + 1
  | .iface _ d => uptoBulk d + 1
  | .map entries => uptoBulkEntries entries + 1
  | .held _ => 1
def uptoBulkAll {H : Type} : List (DataW H) → Nat
  | [] => 0
  | d :: r => uptoBulk d + uptoBulkAll r
def uptoBulkEntries {H : Type} : List (Lit × DataW H) → Nat
  | [] => 0
  | x :: r => uptoBulkEntry x + uptoBulkEntries r
def uptoBulkEntry {H : Type} : Lit × DataW H → Nat
  | (.string bytes, d) => bytes.length + uptoBulk d + 1
  | (_, d) => uptoBulk d + 1
 end
def uptoSmall : (H : Type) → List (DataW H) → Bool := fun _ ds => decide (uptoBulkAll ds ≤ 1048576)
def OpenSpec.upto (s : _root_.Go.ChangeSpec) : _root_.Go.OpenSpec := { _root_.Go.OpenSpec.ofChange s with cond := some uptoSmall }

/-- 'passimlaw14.ImposeReads', WHERE WHAT IT READS IS OF BULK AT MOST 1048576: true; the input reads as it did. -/
def imposeReadsUptoRow : OpenClaim := { program := "ythldekpbjfhmcaa", sum := "cf9e757319282fece616ed6df1fa66379aec5c8c4d51f2d36b576ce48125c507", func := "passim/passimlaw14.ImposeReads", spec := "imposeReads", unfollowed := true, recurses := true, apart := false, narrowed := true }
def ImposeReadsUptoSaid : Prop := imposeReadsUptoRow.holds Try.pinned (OpenSpec.upto imposeReadsSpec)

/-- 'passimlaw14.ImposeLeaves', WHERE WHAT IT READS IS OF BULK AT MOST 1048576: true; the input reads as it did. -/
def imposeLeavesUptoRow : OpenClaim := { program := "ythldekpbjfhmcaa", sum := "cf9e757319282fece616ed6df1fa66379aec5c8c4d51f2d36b576ce48125c507", func := "passim/passimlaw14.ImposeLeaves", spec := "imposeLeaves", unfollowed := true, recurses := true, apart := false, narrowed := true }
def ImposeLeavesUptoSaid : Prop := imposeLeavesUptoRow.holds Try.pinned (OpenSpec.upto imposeLeavesSpec)

/-- 'passimlaw14.ImposeConjugates', WHERE WHAT IT READS IS OF BULK AT MOST 1048576: true; the input reads as it did. -/
def imposeConjugatesUptoRow : OpenClaim := { program := "ythldekpbjfhmcaa", sum := "cf9e757319282fece616ed6df1fa66379aec5c8c4d51f2d36b576ce48125c507", func := "passim/passimlaw14.ImposeConjugates", spec := "imposeConjugates", unfollowed := true, recurses := true, apart := false, narrowed := true }
def ImposeConjugatesUptoSaid : Prop := imposeConjugatesUptoRow.holds Try.pinned (OpenSpec.upto imposeConjugatesSpec)

/-- 'passimlaw14.ImposeCancels', WHERE WHAT IT READS IS OF BULK AT MOST 1048576: true; the input reads as it did. -/
def imposeCancelsUptoRow : OpenClaim := { program := "ythldekpbjfhmcaa", sum := "cf9e757319282fece616ed6df1fa66379aec5c8c4d51f2d36b576ce48125c507", func := "passim/passimlaw14.ImposeCancels", spec := "imposeCancels", unfollowed := true, recurses := true, apart := false, narrowed := true }
def ImposeCancelsUptoSaid : Prop := imposeCancelsUptoRow.holds Try.pinned (OpenSpec.upto imposeCancelsSpec)

/-- 'passimlaw14.ImposeSides', WHERE WHAT IT READS IS OF BULK AT MOST 1048576: true; the input reads as it did. -/
def imposeSidesUptoRow : OpenClaim := { program := "ythldekpbjfhmcaa", sum := "cf9e757319282fece616ed6df1fa66379aec5c8c4d51f2d36b576ce48125c507", func := "passim/passimlaw14.ImposeSides", spec := "imposeSides", unfollowed := true, recurses := true, apart := false, narrowed := true }
def ImposeSidesUptoSaid : Prop := imposeSidesUptoRow.holds Try.pinned (OpenSpec.upto imposeSidesSpec)

/-- 'passimlaw14.ImposeFolds', WHERE WHAT IT READS IS OF BULK AT MOST 1048576: true; the input reads as it did. -/
def imposeFoldsUptoRow : OpenClaim := { program := "ythldekpbjfhmcaa", sum := "cf9e757319282fece616ed6df1fa66379aec5c8c4d51f2d36b576ce48125c507", func := "passim/passimlaw14.ImposeFolds", spec := "imposeFolds", unfollowed := true, recurses := true, apart := false, narrowed := true }
def ImposeFoldsUptoSaid : Prop := imposeFoldsUptoRow.holds Try.pinned (OpenSpec.upto imposeFoldsSpec)

end Rows
end Go.Proofs.Ythldekpbjfhmcaa
