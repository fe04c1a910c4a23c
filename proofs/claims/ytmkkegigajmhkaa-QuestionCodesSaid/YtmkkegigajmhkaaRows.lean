/-
  No cell of these rows narrows 'for every input' (looked for: loops, veiled, ifaces, maps, wideKeys, modest, calm, conditions, laid).
  DERIVED. THE GIVEN ROWS OF THIS SEAT. 7 by the template 'for every input the law returns true; each argument reads behind the call as it read before'; 0 by the template 'total and deterministic' (their statements: YtmkkegigajmhkaaTotals.lean).
  GIVEN WITH THE SEED: the statements are not yours to turn. If you find one false, say at which input.
  Laid BY PROGRAM, IN A SANDBOX (cutbox-rows.mjs): the forced cells as the released guide's own fill.sh prints them over the translation 528415cc3e340332… (all of the seat's roots in one cut). By AI agents, Wed Nov 11 2026. No macro, syntax, notation, axiom, sorry.
-/
import Derived.Test.YtmkkegigajmhkaaChecked
import GoSem.Claim
import GoSem.ClaimJoined
import GoSem.ClaimMapViews
import Derived.JoinedTies
import Derived.KernelRfl
namespace Go.Proofs.Ytmkkegigajmhkaa
/- THE CELL 'sum', in the pinned program and in every row, IS THE sha256 OF THE DUMP (.gsa) THAT YtmkkegigajmhkaaProg.lean LOADS. Nothing in Lean hashes anything: it is a label: what it is worth is what the hold of that sum in a sandbox is worth. -/
noncomputable def Try.pinned : Pinned := { name := "ytmkkegigajmhkaa", sum := "528415cc3e340332f6c575eff092a04a952fc3d97c07fe695b006e219077ae21", checked := Try.checked }
namespace Rows
def none {H : Type} : Left H := { results := [], args := [] }

/-- 'passimlaw16.QuestionValid': WHATEVER THE INPUT: true; the input reads as it did. -/
def questionValidSpec : ChangeSpec := { name := "questionValid", fn := fun _ => fun
  | [d1, d2, d3] => { results := [.lit (.bool true)], args := [d1, d2, d3] }
  | _ => none }
def questionValidRow : OpenClaim := { program := "ytmkkegigajmhkaa", sum := "528415cc3e340332f6c575eff092a04a952fc3d97c07fe695b006e219077ae21", func := "passim/passimlaw16.QuestionValid", spec := "questionValid", unfollowed := true, recurses := true, apart := false }
def QuestionValidSaid : Prop := questionValidRow.holds Try.pinned (OpenSpec.ofChange questionValidSpec)

/-- ITS FALSE NEIGHBOUR: 'it returns false'. Refute it at one input. -/
def questionValidWrong : ChangeSpec := { name := "questionValid", fn := fun _ => fun
  | [d1, d2, d3] => { results := [.lit (.bool false)], args := [d1, d2, d3] }
  | _ => none }
def QuestionValidWrongFalsely : Prop := questionValidRow.holds Try.pinned (OpenSpec.ofChange questionValidWrong)

/-- 'passimlaw16.QuestionBest': WHATEVER THE INPUT: true; the input reads as it did. -/
def questionBestSpec : ChangeSpec := { name := "questionBest", fn := fun _ => fun
  | [d1, d2, d3, d4] => { results := [.lit (.bool true)], args := [d1, d2, d3, d4] }
  | _ => none }
def questionBestRow : OpenClaim := { program := "ytmkkegigajmhkaa", sum := "528415cc3e340332f6c575eff092a04a952fc3d97c07fe695b006e219077ae21", func := "passim/passimlaw16.QuestionBest", spec := "questionBest", unfollowed := true, recurses := true, apart := false }
def QuestionBestSaid : Prop := questionBestRow.holds Try.pinned (OpenSpec.ofChange questionBestSpec)

/-- ITS FALSE NEIGHBOUR: 'it returns false'. Refute it at one input. -/
def questionBestWrong : ChangeSpec := { name := "questionBest", fn := fun _ => fun
  | [d1, d2, d3, d4] => { results := [.lit (.bool false)], args := [d1, d2, d3, d4] }
  | _ => none }
def QuestionBestWrongFalsely : Prop := questionBestRow.holds Try.pinned (OpenSpec.ofChange questionBestWrong)

/-- 'passimlaw16.QuestionChecks': WHATEVER THE INPUT: true; the input reads as it did. -/
def questionChecksSpec : ChangeSpec := { name := "questionChecks", fn := fun _ => fun
  | [d1, d2, d3, d4, d5] => { results := [.lit (.bool true)], args := [d1, d2, d3, d4, d5] }
  | _ => none }
def questionChecksRow : OpenClaim := { program := "ytmkkegigajmhkaa", sum := "528415cc3e340332f6c575eff092a04a952fc3d97c07fe695b006e219077ae21", func := "passim/passimlaw16.QuestionChecks", spec := "questionChecks", unfollowed := true, recurses := true, apart := false }
def QuestionChecksSaid : Prop := questionChecksRow.holds Try.pinned (OpenSpec.ofChange questionChecksSpec)

/-- ITS FALSE NEIGHBOUR: 'it returns false'. Refute it at one input. -/
def questionChecksWrong : ChangeSpec := { name := "questionChecks", fn := fun _ => fun
  | [d1, d2, d3, d4, d5] => { results := [.lit (.bool false)], args := [d1, d2, d3, d4, d5] }
  | _ => none }
def QuestionChecksWrongFalsely : Prop := questionChecksRow.holds Try.pinned (OpenSpec.ofChange questionChecksWrong)

/-- 'passimlaw16.QuestionFollows': WHATEVER THE INPUT: true; the input reads as it did. -/
def questionFollowsSpec : ChangeSpec := { name := "questionFollows", fn := fun _ => fun
  | [d1, d2, d3, d4, d5] => { results := [.lit (.bool true)], args := [d1, d2, d3, d4, d5] }
  | _ => none }
def questionFollowsRow : OpenClaim := { program := "ytmkkegigajmhkaa", sum := "528415cc3e340332f6c575eff092a04a952fc3d97c07fe695b006e219077ae21", func := "passim/passimlaw16.QuestionFollows", spec := "questionFollows", unfollowed := true, recurses := true, apart := false }
def QuestionFollowsSaid : Prop := questionFollowsRow.holds Try.pinned (OpenSpec.ofChange questionFollowsSpec)

/-- ITS FALSE NEIGHBOUR: 'it returns false'. Refute it at one input. -/
def questionFollowsWrong : ChangeSpec := { name := "questionFollows", fn := fun _ => fun
  | [d1, d2, d3, d4, d5] => { results := [.lit (.bool false)], args := [d1, d2, d3, d4, d5] }
  | _ => none }
def QuestionFollowsWrongFalsely : Prop := questionFollowsRow.holds Try.pinned (OpenSpec.ofChange questionFollowsWrong)

/-- 'passimlaw16.QuestionLeast': WHATEVER THE INPUT: true; the input reads as it did. -/
def questionLeastSpec : ChangeSpec := { name := "questionLeast", fn := fun _ => fun
  | [d1, d2, d3, d4] => { results := [.lit (.bool true)], args := [d1, d2, d3, d4] }
  | _ => none }
def questionLeastRow : OpenClaim := { program := "ytmkkegigajmhkaa", sum := "528415cc3e340332f6c575eff092a04a952fc3d97c07fe695b006e219077ae21", func := "passim/passimlaw16.QuestionLeast", spec := "questionLeast", unfollowed := true, recurses := true, apart := false }
def QuestionLeastSaid : Prop := questionLeastRow.holds Try.pinned (OpenSpec.ofChange questionLeastSpec)

/-- ITS FALSE NEIGHBOUR: 'it returns false'. Refute it at one input. -/
def questionLeastWrong : ChangeSpec := { name := "questionLeast", fn := fun _ => fun
  | [d1, d2, d3, d4] => { results := [.lit (.bool false)], args := [d1, d2, d3, d4] }
  | _ => none }
def QuestionLeastWrongFalsely : Prop := questionLeastRow.holds Try.pinned (OpenSpec.ofChange questionLeastWrong)

/-- 'passimlaw16.QuestionFewer': WHATEVER THE INPUT: true; the input reads as it did. -/
def questionFewerSpec : ChangeSpec := { name := "questionFewer", fn := fun _ => fun
  | [d1, d2, d3, d4] => { results := [.lit (.bool true)], args := [d1, d2, d3, d4] }
  | _ => none }
def questionFewerRow : OpenClaim := { program := "ytmkkegigajmhkaa", sum := "528415cc3e340332f6c575eff092a04a952fc3d97c07fe695b006e219077ae21", func := "passim/passimlaw16.QuestionFewer", spec := "questionFewer", unfollowed := true, recurses := true, apart := false }
def QuestionFewerSaid : Prop := questionFewerRow.holds Try.pinned (OpenSpec.ofChange questionFewerSpec)

/-- ITS FALSE NEIGHBOUR: 'it returns false'. Refute it at one input. -/
def questionFewerWrong : ChangeSpec := { name := "questionFewer", fn := fun _ => fun
  | [d1, d2, d3, d4] => { results := [.lit (.bool false)], args := [d1, d2, d3, d4] }
  | _ => none }
def QuestionFewerWrongFalsely : Prop := questionFewerRow.holds Try.pinned (OpenSpec.ofChange questionFewerWrong)

/-- 'passimlaw16.QuestionCodes': WHATEVER THE INPUT: true; the input reads as it did. -/
def questionCodesSpec : ChangeSpec := { name := "questionCodes", fn := fun _ => fun
  | [d1, d2, d3, d4, d5] => { results := [.lit (.bool true)], args := [d1, d2, d3, d4, d5] }
  | _ => none }
def questionCodesRow : OpenClaim := { program := "ytmkkegigajmhkaa", sum := "528415cc3e340332f6c575eff092a04a952fc3d97c07fe695b006e219077ae21", func := "passim/passimlaw16.QuestionCodes", spec := "questionCodes", unfollowed := true, recurses := true, apart := false }
def QuestionCodesSaid : Prop := questionCodesRow.holds Try.pinned (OpenSpec.ofChange questionCodesSpec)

/-- ITS FALSE NEIGHBOUR: 'it returns false'. Refute it at one input. -/
def questionCodesWrong : ChangeSpec := { name := "questionCodes", fn := fun _ => fun
  | [d1, d2, d3, d4, d5] => { results := [.lit (.bool false)], args := [d1, d2, d3, d4, d5] }
  | _ => none }
def QuestionCodesWrongFalsely : Prop := questionCodesRow.holds Try.pinned (OpenSpec.ofChange questionCodesWrong)

/- THE SECOND FORM. 'bulk': how many values and letters a reading holds, each counted each time it is reached (what is shared counts as often as it is met; a slice's spare places count too). A statement '..UptoSaid' is the law's where the arguments, and the package variables that the reading takes, are together of bulk at most 1048576: NARROWER than '..Said'. Prove '..Said' where nothing that the law and all that it calls make is longer than what came in: it says more and counts as full. Else prove '..UptoSaid'. A law counts once. -/
mutual
def uptoBulk {H : Type} : DataW H → Nat
  | .lit (.string bytes) => bytes.length + 1
  | .lit _ => 1
  | .nil => 1
  | .ptr d => uptoBulk d + 1
  | .slice elems spare => uptoBulkAll elems + uptoBulkAll spare + 1
  | .agg parts => uptoBulkAll parts + 1
  | .iface _ d => uptoBulk d + 1
  | .map entries => uptoBulkEntries entries + 1
  | .held _ => 1
def uptoBulkAll {H : Type} : List (DataW H) → Nat
  | [] => 0
  | d :: r => uptoBulk d + uptoBulkAll r
def uptoBulkEntries {H : Type} : List (Lit × DataW H) → Nat
  | [] => 0
  | x :: r => uptoBulkEntry x + uptoBulkEntries r
def uptoBulkEntry {H : Type} : Lit × DataW H → Nat
  | (.string bytes, d) => bytes.length + uptoBulk d + 1
  | (_, d) => uptoBulk d + 1
 end
def uptoSmall : (H : Type) → List (DataW H) → Bool := fun _ ds => decide (uptoBulkAll ds ≤ 1048576)
def OpenSpec.upto (s : _root_.Go.ChangeSpec) : _root_.Go.OpenSpec := { _root_.Go.OpenSpec.ofChange s with cond := some uptoSmall }

/-- 'passimlaw16.QuestionValid', WHERE WHAT IT READS IS OF BULK AT MOST 1048576: true; the input reads as it did. -/
def questionValidUptoRow : OpenClaim := { program := "ytmkkegigajmhkaa", sum := "528415cc3e340332f6c575eff092a04a952fc3d97c07fe695b006e219077ae21", func := "passim/passimlaw16.QuestionValid", spec := "questionValid", unfollowed := true, recurses := true, apart := false, narrowed := true }
def QuestionValidUptoSaid : Prop := questionValidUptoRow.holds Try.pinned (OpenSpec.upto questionValidSpec)

/-- 'passimlaw16.QuestionBest', WHERE WHAT IT READS IS OF BULK AT MOST 1048576: true; the input reads as it did. -/
def questionBestUptoRow : OpenClaim := { program := "ytmkkegigajmhkaa", sum := "528415cc3e340332f6c575eff092a04a952fc3d97c07fe695b006e219077ae21", func := "passim/passimlaw16.QuestionBest", spec := "questionBest", unfollowed := true, recurses := true, apart := false, narrowed := true }
def QuestionBestUptoSaid : Prop := questionBestUptoRow.holds Try.pinned (OpenSpec.upto questionBestSpec)

/-- 'passimlaw16.QuestionChecks', WHERE WHAT IT READS IS OF BULK AT MOST 1048576: true; the input reads as it did. -/
def questionChecksUptoRow : OpenClaim := { program := "ytmkkegigajmhkaa", sum := "528415cc3e340332f6c575eff092a04a952fc3d97c07fe695b006e219077ae21", func := "passim/passimlaw16.QuestionChecks", spec := "questionChecks", unfollowed := true, recurses := true, apart := false, narrowed := true }
def QuestionChecksUptoSaid : Prop := questionChecksUptoRow.holds Try.pinned (OpenSpec.upto questionChecksSpec)

/-- 'passimlaw16.QuestionFollows', WHERE WHAT IT READS IS OF BULK AT MOST 1048576: true; the input reads as it did. -/
def questionFollowsUptoRow : OpenClaim := { program := "ytmkkegigajmhkaa", sum := "528415cc3e340332f6c575eff092a04a952fc3d97c07fe695b006e219077ae21", func := "passim/passimlaw16.QuestionFollows", spec := "questionFollows", unfollowed := true, recurses := true, apart := false, narrowed := true }
def QuestionFollowsUptoSaid : Prop := questionFollowsUptoRow.holds Try.pinned (OpenSpec.upto questionFollowsSpec)

/-- 'passimlaw16.QuestionLeast', WHERE WHAT IT READS IS OF BULK AT MOST 1048576: true; the input reads as it did. -/
def questionLeastUptoRow : OpenClaim := { program := "ytmkkegigajmhkaa", sum := "528415cc3e340332f6c575eff092a04a952fc3d97c07fe695b006e219077ae21", func := "passim/passimlaw16.QuestionLeast", spec := "questionLeast", unfollowed := true, recurses := true, apart := false, narrowed := true }
def QuestionLeastUptoSaid : Prop := questionLeastUptoRow.holds Try.pinned (OpenSpec.upto questionLeastSpec)

/-- 'passimlaw16.QuestionFewer', WHERE WHAT IT READS IS OF BULK AT MOST 1048576: true; the input reads as it did. -/
def questionFewerUptoRow : OpenClaim := { program := "ytmkkegigajmhkaa", sum := "528415cc3e340332f6c575eff092a04a952fc3d97c07fe695b006e219077ae21", func := "passim/passimlaw16.QuestionFewer", spec := "questionFewer", unfollowed := true, recurses := true, apart := false, narrowed := true }
def QuestionFewerUptoSaid : Prop := questionFewerUptoRow.holds Try.pinned (OpenSpec.upto questionFewerSpec)

/-- 'passimlaw16.QuestionCodes', WHERE WHAT IT READS IS OF BULK AT MOST 1048576: true; the input reads as it did. -/
def questionCodesUptoRow : OpenClaim := { program := "ytmkkegigajmhkaa", sum := "528415cc3e340332f6c575eff092a04a952fc3d97c07fe695b006e219077ae21", func := "passim/passimlaw16.QuestionCodes", spec := "questionCodes", unfollowed := true, recurses := true, apart := false, narrowed := true }
def QuestionCodesUptoSaid : Prop := questionCodesUptoRow.holds Try.pinned (OpenSpec.upto questionCodesSpec)

end Rows
end Go.Proofs.Ytmkkegigajmhkaa
