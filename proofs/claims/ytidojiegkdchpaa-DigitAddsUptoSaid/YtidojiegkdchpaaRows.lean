/-
  No cell of these rows narrows 'for every input' (looked for: loops, veiled, ifaces, maps, wideKeys, modest, calm, conditions, laid).
  DERIVED. THE GIVEN ROWS OF THIS SEAT. 6 by the template 'for every input the law returns true; each argument reads behind the call as it read before'; 0 by the template 'total and deterministic' (their statements: YtidojiegkdchpaaTotals.lean).
  GIVEN WITH THE SEED: the statements are not yours to turn. If you find one false, say at which input.
  Laid BY PROGRAM, IN A SANDBOX (cutbox-rows.mjs): the forced cells as the released guide's own fill.sh prints them over the translation e7a6a59fed56114c… (all of the seat's roots in one cut). By AI agents, Wed Nov 11 2026. No macro, syntax, notation, axiom, sorry.
-/
import Derived.Test.YtidojiegkdchpaaChecked
import GoSem.Claim
import GoSem.ClaimJoined
import GoSem.ClaimMapViews
import Derived.JoinedTies
import Derived.KernelRfl
namespace Go.Proofs.Ytidojiegkdchpaa
/- THE CELL 'sum', in the pinned program and in every row, IS THE sha256 OF THE DUMP (.gsa) THAT YtidojiegkdchpaaProg.lean LOADS. Nothing in Lean hashes anything: it is a label: what it is worth is what the hold of that sum in a sandbox is worth. -/
noncomputable def Try.pinned : Pinned := { name := "ytidojiegkdchpaa", sum := "e7a6a59fed56114cdcbc2c96702ae4b4b1a455d08009f4224651f1c71a0b5cc9", checked := Try.checked }
namespace Rows
def none {H : Type} : Left H := { results := [], args := [] }

/-- 'passimlaw18.DigitSums': WHATEVER THE INPUT: true; the input reads as it did. -/
def digitSumsSpec : ChangeSpec := { name := "digitSums", fn := fun _ => fun
  | [d1, d2, d3, d4, d5, d6, d7] => { results := [.lit (.bool true)], args := [d1, d2, d3, d4, d5, d6, d7] }
  | _ => none }
def digitSumsRow : OpenClaim := { program := "ytidojiegkdchpaa", sum := "e7a6a59fed56114cdcbc2c96702ae4b4b1a455d08009f4224651f1c71a0b5cc9", func := "passim/passimlaw18.DigitSums", spec := "digitSums", unfollowed := true, recurses := true, apart := false }
def DigitSumsSaid : Prop := digitSumsRow.holds Try.pinned (OpenSpec.ofChange digitSumsSpec)

/-- ITS FALSE NEIGHBOUR: 'it returns false'. Refute it at one input. -/
def digitSumsWrong : ChangeSpec := { name := "digitSums", fn := fun _ => fun
  | [d1, d2, d3, d4, d5, d6, d7] => { results := [.lit (.bool false)], args := [d1, d2, d3, d4, d5, d6, d7] }
  | _ => none }
def DigitSumsWrongFalsely : Prop := digitSumsRow.holds Try.pinned (OpenSpec.ofChange digitSumsWrong)

/-- 'passimlaw18.DigitWeak': WHATEVER THE INPUT: true; the input reads as it did. -/
def digitWeakSpec : ChangeSpec := { name := "digitWeak", fn := fun _ => fun
  | [d1, d2, d3, d4] => { results := [.lit (.bool true)], args := [d1, d2, d3, d4] }
  | _ => none }
def digitWeakRow : OpenClaim := { program := "ytidojiegkdchpaa", sum := "e7a6a59fed56114cdcbc2c96702ae4b4b1a455d08009f4224651f1c71a0b5cc9", func := "passim/passimlaw18.DigitWeak", spec := "digitWeak", unfollowed := true, recurses := true, apart := false }
def DigitWeakSaid : Prop := digitWeakRow.holds Try.pinned (OpenSpec.ofChange digitWeakSpec)

/-- ITS FALSE NEIGHBOUR: 'it returns false'. Refute it at one input. -/
def digitWeakWrong : ChangeSpec := { name := "digitWeak", fn := fun _ => fun
  | [d1, d2, d3, d4] => { results := [.lit (.bool false)], args := [d1, d2, d3, d4] }
  | _ => none }
def DigitWeakWrongFalsely : Prop := digitWeakRow.holds Try.pinned (OpenSpec.ofChange digitWeakWrong)

/-- 'passimlaw18.DigitFlaws': WHATEVER THE INPUT: true; the input reads as it did. -/
def digitFlawsSpec : ChangeSpec := { name := "digitFlaws", fn := fun _ => fun
  | [d1, d2, d3, d4, d5] => { results := [.lit (.bool true)], args := [d1, d2, d3, d4, d5] }
  | _ => none }
def digitFlawsRow : OpenClaim := { program := "ytidojiegkdchpaa", sum := "e7a6a59fed56114cdcbc2c96702ae4b4b1a455d08009f4224651f1c71a0b5cc9", func := "passim/passimlaw18.DigitFlaws", spec := "digitFlaws", unfollowed := true, recurses := true, apart := false }
def DigitFlawsSaid : Prop := digitFlawsRow.holds Try.pinned (OpenSpec.ofChange digitFlawsSpec)

/-- ITS FALSE NEIGHBOUR: 'it returns false'. Refute it at one input. -/
def digitFlawsWrong : ChangeSpec := { name := "digitFlaws", fn := fun _ => fun
  | [d1, d2, d3, d4, d5] => { results := [.lit (.bool false)], args := [d1, d2, d3, d4, d5] }
  | _ => none }
def DigitFlawsWrongFalsely : Prop := digitFlawsRow.holds Try.pinned (OpenSpec.ofChange digitFlawsWrong)

/-- 'passimlaw18.DigitAdds': WHATEVER THE INPUT: true; the input reads as it did. -/
def digitAddsSpec : ChangeSpec := { name := "digitAdds", fn := fun _ => fun
  | [d1, d2, d3, d4] => { results := [.lit (.bool true)], args := [d1, d2, d3, d4] }
  | _ => none }
def digitAddsRow : OpenClaim := { program := "ytidojiegkdchpaa", sum := "e7a6a59fed56114cdcbc2c96702ae4b4b1a455d08009f4224651f1c71a0b5cc9", func := "passim/passimlaw18.DigitAdds", spec := "digitAdds", unfollowed := true, recurses := true, apart := false }
def DigitAddsSaid : Prop := digitAddsRow.holds Try.pinned (OpenSpec.ofChange digitAddsSpec)

/-- ITS FALSE NEIGHBOUR: 'it returns false'. Refute it at one input. -/
def digitAddsWrong : ChangeSpec := { name := "digitAdds", fn := fun _ => fun
  | [d1, d2, d3, d4] => { results := [.lit (.bool false)], args := [d1, d2, d3, d4] }
  | _ => none }
def DigitAddsWrongFalsely : Prop := digitAddsRow.holds Try.pinned (OpenSpec.ofChange digitAddsWrong)

/-- 'passimlaw18.DigitFinds': WHATEVER THE INPUT: true; the input reads as it did. -/
def digitFindsSpec : ChangeSpec := { name := "digitFinds", fn := fun _ => fun
  | [d1, d2, d3] => { results := [.lit (.bool true)], args := [d1, d2, d3] }
  | _ => none }
def digitFindsRow : OpenClaim := { program := "ytidojiegkdchpaa", sum := "e7a6a59fed56114cdcbc2c96702ae4b4b1a455d08009f4224651f1c71a0b5cc9", func := "passim/passimlaw18.DigitFinds", spec := "digitFinds", unfollowed := true, recurses := true, apart := false }
def DigitFindsSaid : Prop := digitFindsRow.holds Try.pinned (OpenSpec.ofChange digitFindsSpec)

/-- ITS FALSE NEIGHBOUR: 'it returns false'. Refute it at one input. -/
def digitFindsWrong : ChangeSpec := { name := "digitFinds", fn := fun _ => fun
  | [d1, d2, d3] => { results := [.lit (.bool false)], args := [d1, d2, d3] }
  | _ => none }
def DigitFindsWrongFalsely : Prop := digitFindsRow.holds Try.pinned (OpenSpec.ofChange digitFindsWrong)

/-- 'passimlaw18.DigitNear': WHATEVER THE INPUT: true; the input reads as it did. -/
def digitNearSpec : ChangeSpec := { name := "digitNear", fn := fun _ => fun
  | [d1, d2, d3] => { results := [.lit (.bool true)], args := [d1, d2, d3] }
  | _ => none }
def digitNearRow : OpenClaim := { program := "ytidojiegkdchpaa", sum := "e7a6a59fed56114cdcbc2c96702ae4b4b1a455d08009f4224651f1c71a0b5cc9", func := "passim/passimlaw18.DigitNear", spec := "digitNear", unfollowed := true, recurses := true, apart := false }
def DigitNearSaid : Prop := digitNearRow.holds Try.pinned (OpenSpec.ofChange digitNearSpec)

/-- ITS FALSE NEIGHBOUR: 'it returns false'. Refute it at one input. -/
def digitNearWrong : ChangeSpec := { name := "digitNear", fn := fun _ => fun
  | [d1, d2, d3] => { results := [.lit (.bool false)], args := [d1, d2, d3] }
  | _ => none }
def DigitNearWrongFalsely : Prop := digitNearRow.holds Try.pinned (OpenSpec.ofChange digitNearWrong)

/- THE SECOND FORM. 'bulk': how many values and letters a reading holds, each counted each time it is reached (what is shared counts as often as it is met; a slice's spare places count too). A statement '..UptoSaid' is the law's where the arguments, and the package variables that the reading takes, are together of bulk at most 1048576: NARROWER than '..Said'. Prove '..Said' where nothing that the law and all that it calls make is longer than what came in: it says more and counts as full. Else prove '..UptoSaid'. A law counts once. -/
mutual
def uptoBulk {H : Type} : DataW H → Nat
  | .lit (.string bytes) => bytes.length + 1
  | .lit _ => 1
  | .nil => 1
  | .ptr d => uptoBulk d + 1
  | .slice elems spare => uptoBulkAll elems + uptoBulkAll spare + 1
  | .agg parts => uptoBulkAll parts + 1
  | .iface _ d => uptoBulk d + 1
  | .map entries => uptoBulkEntries entries + 1
  | .held _ => 1
def uptoBulkAll {H : Type} : List (DataW H) → Nat
  | [] => 0
  | d :: r => uptoBulk d + uptoBulkAll r
def uptoBulkEntries {H : Type} : List (Lit × DataW H) → Nat
  | [] => 0
  | x :: r => uptoBulkEntry x + uptoBulkEntries r
def uptoBulkEntry {H : Type} : Lit × DataW H → Nat
  | (.string bytes, d) => bytes.length + uptoBulk d + 1
  | (_, d) => uptoBulk d + 1
 end
def uptoSmall : (H : Type) → List (DataW H) → Bool := fun _ ds => decide (uptoBulkAll ds ≤ 1048576)
def OpenSpec.upto (s : _root_.Go.ChangeSpec) : _root_.Go.OpenSpec := { _root_.Go.OpenSpec.ofChange s with cond := some uptoSmall }

/-- 'passimlaw18.DigitSums', WHERE WHAT IT READS IS OF BULK AT MOST 1048576: true; the input reads as it did. -/
def digitSumsUptoRow : OpenClaim := { program := "ytidojiegkdchpaa", sum := "e7a6a59fed56114cdcbc2c96702ae4b4b1a455d08009f4224651f1c71a0b5cc9", func := "passim/passimlaw18.DigitSums", spec := "digitSums", unfollowed := true, recurses := true, apart := false, narrowed := true }
def DigitSumsUptoSaid : Prop := digitSumsUptoRow.holds Try.pinned (OpenSpec.upto digitSumsSpec)

/-- 'passimlaw18.DigitWeak', WHERE WHAT IT READS IS OF BULK AT MOST 1048576: true; the input reads as it did. -/
def digitWeakUptoRow : OpenClaim := { program := "ytidojiegkdchpaa", sum := "e7a6a59fed56114cdcbc2c96702ae4b4b1a455d08009f4224651f1c71a0b5cc9", func := "passim/passimlaw18.DigitWeak", spec := "digitWeak", unfollowed := true, recurses := true, apart := false, narrowed := true }
def DigitWeakUptoSaid : Prop := digitWeakUptoRow.holds Try.pinned (OpenSpec.upto digitWeakSpec)

/-- 'passimlaw18.DigitFlaws', WHERE WHAT IT READS IS OF BULK AT MOST 1048576: true; the input reads as it did. -/
def digitFlawsUptoRow : OpenClaim := { program := "ytidojiegkdchpaa", sum := "e7a6a59fed56114cdcbc2c96702ae4b4b1a455d08009f4224651f1c71a0b5cc9", func := "passim/passimlaw18.DigitFlaws", spec := "digitFlaws", unfollowed := true, recurses := true, apart := false, narrowed := true }
def DigitFlawsUptoSaid : Prop := digitFlawsUptoRow.holds Try.pinned (OpenSpec.upto digitFlawsSpec)

/-- 'passimlaw18.DigitAdds', WHERE WHAT IT READS IS OF BULK AT MOST 1048576: true; the input reads as it did. -/
def digitAddsUptoRow : OpenClaim := { program := "ytidojiegkdchpaa", sum := "e7a6a59fed56114cdcbc2c96702ae4b4b1a455d08009f4224651f1c71a0b5cc9", func := "passim/passimlaw18.DigitAdds", spec := "digitAdds", unfollowed := true, recurses := true, apart := false, narrowed := true }
def DigitAddsUptoSaid : Prop := digitAddsUptoRow.holds Try.pinned (OpenSpec.upto digitAddsSpec)

/-- 'passimlaw18.DigitFinds', WHERE WHAT IT READS IS OF BULK AT MOST 1048576: true; the input reads as it did. -/
def digitFindsUptoRow : OpenClaim := { program := "ytidojiegkdchpaa", sum := "e7a6a59fed56114cdcbc2c96702ae4b4b1a455d08009f4224651f1c71a0b5cc9", func := "passim/passimlaw18.DigitFinds", spec := "digitFinds", unfollowed := true, recurses := true, apart := false, narrowed := true }
def DigitFindsUptoSaid : Prop := digitFindsUptoRow.holds Try.pinned (OpenSpec.upto digitFindsSpec)

/-- 'passimlaw18.DigitNear', WHERE WHAT IT READS IS OF BULK AT MOST 1048576: true; the input reads as it did. -/
def digitNearUptoRow : OpenClaim := { program := "ytidojiegkdchpaa", sum := "e7a6a59fed56114cdcbc2c96702ae4b4b1a455d08009f4224651f1c71a0b5cc9", func := "passim/passimlaw18.DigitNear", spec := "digitNear", unfollowed := true, recurses := true, apart := false, narrowed := true }
def DigitNearUptoSaid : Prop := digitNearUptoRow.holds Try.pinned (OpenSpec.upto digitNearSpec)

end Rows
end Go.Proofs.Ytidojiegkdchpaa
