/-
  DERIVED. GIVEN WITH THE SEED: THE CARDS: each row of YtecdkpcapalifaaDoorRows.lean that lists a variable, with what it lists TIED to the program's text (the seventh form; the later family's looks); each row that meets fmt, with fmt's text TOLD by the authors' own Lean function (tested against real Go, not proved from fmt's source: count such statements apart). THE CARD IS WHAT COUNTS. Prove the row's statement (the work); the ties are given (YtecdkpcapalifaaDoorTie.lean); close each card by the builder's one call (the guide's Derived/Test/ToyasCard.lean, 'card_holds'). Laid BY PROGRAM, IN A SANDBOX (cutbox-door.mjs). By AI agents, Wed Nov 11 2026. No macro, syntax, notation, axiom, sorry.
-/
import Derived.Test.YtecdkpcapalifaaDoorRows
import GoSem.ClaimSeven
namespace Go.Proofs.YtecdkpcapalifaaDoor
namespace Rows

/-- THE TIED CARD OF 'passimlaw19.SpanPrints'. -/
def spanPrintsCard : Claim7 := { stood := { row := spanPrintsRow, standIns := [], harness := (true, "070d0169c5a87758a7362f23f7d27315fc270d9b1ccefde91404ed4ac861eba2"), looks := false }, kinds := [], alts := [], laidByText := true, laidKinds := [.data, .pinned], laidTests := true, laidLooks := .later }
def SpanPrintsCardSaid : Prop := Claim7.holds Tryd.pinned (.plain (OpenSpec.ofChange spanPrintsSpec)) spanPrintsCard

/-- THE TIED CARD OF 'passimlaw19.SpanParses'. -/
def spanParsesCard : Claim7 := { stood := { row := spanParsesRow, standIns := [], harness := (true, "070d0169c5a87758a7362f23f7d27315fc270d9b1ccefde91404ed4ac861eba2"), looks := false }, kinds := [], alts := [], laidByText := true, laidKinds := [.data, .pinned], laidTests := true, laidLooks := .later }
def SpanParsesCardSaid : Prop := Claim7.holds Tryd.pinned (.plain (OpenSpec.ofChange spanParsesSpec)) spanParsesCard

/-- THE TIED CARD OF 'passimlaw19.SpanFirst'. -/
def spanFirstCard : Claim7 := { stood := { row := spanFirstRow, standIns := [], harness := (true, "070d0169c5a87758a7362f23f7d27315fc270d9b1ccefde91404ed4ac861eba2"), looks := false }, kinds := [], alts := [], laidByText := true, laidKinds := [.data, .pinned], laidTests := true, laidLooks := .later }
def SpanFirstCardSaid : Prop := Claim7.holds Tryd.pinned (.plain (OpenSpec.ofChange spanFirstSpec)) spanFirstCard

/-- THE TIED CARD OF 'passimlaw19.SpanBack'. -/
def spanBackCard : Claim7 := { stood := { row := spanBackRow, standIns := [], harness := (true, "070d0169c5a87758a7362f23f7d27315fc270d9b1ccefde91404ed4ac861eba2"), looks := false }, kinds := [], alts := [], laidByText := true, laidKinds := [.data, .pinned], laidTests := true, laidLooks := .later }
def SpanBackCardSaid : Prop := Claim7.holds Tryd.pinned (.plain (OpenSpec.ofChange spanBackSpec)) spanBackCard

/-- THE TIED CARD OF 'passimlaw19.SpanMore'. -/
def spanMoreCard : Claim7 := { stood := { row := spanMoreRow, standIns := [], harness := (true, "070d0169c5a87758a7362f23f7d27315fc270d9b1ccefde91404ed4ac861eba2"), looks := false }, kinds := [], alts := [], laidByText := true, laidKinds := [.data, .pinned], laidTests := true, laidLooks := .later }
def SpanMoreCardSaid : Prop := Claim7.holds Tryd.pinned (.plain (OpenSpec.ofChange spanMoreSpec)) spanMoreCard

/-- THE TIED CARD OF 'passimlaw19.SpanUnique'. -/
def spanUniqueCard : Claim7 := { stood := { row := spanUniqueRow, standIns := [], harness := (true, "070d0169c5a87758a7362f23f7d27315fc270d9b1ccefde91404ed4ac861eba2"), looks := false }, kinds := [], alts := [], laidByText := true, laidKinds := [.data, .pinned], laidTests := true, laidLooks := .later }
def SpanUniqueCardSaid : Prop := Claim7.holds Tryd.pinned (.plain (OpenSpec.ofChange spanUniqueSpec)) spanUniqueCard

/-- THE TIED CARD OF 'passimlaw19.SpanReads'. -/
def spanReadsCard : Claim7 := { stood := { row := spanReadsRow, standIns := [], harness := (true, "070d0169c5a87758a7362f23f7d27315fc270d9b1ccefde91404ed4ac861eba2"), looks := false }, kinds := [], alts := [], laidByText := true, laidKinds := [.data, .pinned], laidTests := true, laidLooks := .later }
def SpanReadsCardSaid : Prop := Claim7.holds Tryd.pinned (.plain (OpenSpec.ofChange spanReadsSpec)) spanReadsCard

/-- THE TIED CARD OF 'passimlaw19.SpanNormal'. -/
def spanNormalCard : Claim7 := { stood := { row := spanNormalRow, standIns := [], harness := (true, "070d0169c5a87758a7362f23f7d27315fc270d9b1ccefde91404ed4ac861eba2"), looks := false }, kinds := [], alts := [], laidByText := true, laidKinds := [.data, .pinned], laidTests := true, laidLooks := .later }
def SpanNormalCardSaid : Prop := Claim7.holds Tryd.pinned (.plain (OpenSpec.ofChange spanNormalSpec)) spanNormalCard

/-- THE SECOND FORM's CARD OF 'passimlaw19.SpanPrints'. -/
def spanPrintsUptoCard : Claim7 := { stood := { row := spanPrintsUptoRow, standIns := [], harness := (true, "070d0169c5a87758a7362f23f7d27315fc270d9b1ccefde91404ed4ac861eba2"), looks := false }, kinds := [], alts := [], laidByText := true, laidKinds := [.data, .pinned], laidTests := true, laidLooks := .later }
def SpanPrintsUptoCardSaid : Prop := Claim7.holds Tryd.pinned (.plain (OpenSpec.upto spanPrintsSpec)) spanPrintsUptoCard

/-- THE SECOND FORM's CARD OF 'passimlaw19.SpanParses'. -/
def spanParsesUptoCard : Claim7 := { stood := { row := spanParsesUptoRow, standIns := [], harness := (true, "070d0169c5a87758a7362f23f7d27315fc270d9b1ccefde91404ed4ac861eba2"), looks := false }, kinds := [], alts := [], laidByText := true, laidKinds := [.data, .pinned], laidTests := true, laidLooks := .later }
def SpanParsesUptoCardSaid : Prop := Claim7.holds Tryd.pinned (.plain (OpenSpec.upto spanParsesSpec)) spanParsesUptoCard

/-- THE SECOND FORM's CARD OF 'passimlaw19.SpanFirst'. -/
def spanFirstUptoCard : Claim7 := { stood := { row := spanFirstUptoRow, standIns := [], harness := (true, "070d0169c5a87758a7362f23f7d27315fc270d9b1ccefde91404ed4ac861eba2"), looks := false }, kinds := [], alts := [], laidByText := true, laidKinds := [.data, .pinned], laidTests := true, laidLooks := .later }
def SpanFirstUptoCardSaid : Prop := Claim7.holds Tryd.pinned (.plain (OpenSpec.upto spanFirstSpec)) spanFirstUptoCard

/-- THE SECOND FORM's CARD OF 'passimlaw19.SpanBack'. -/
def spanBackUptoCard : Claim7 := { stood := { row := spanBackUptoRow, standIns := [], harness := (true, "070d0169c5a87758a7362f23f7d27315fc270d9b1ccefde91404ed4ac861eba2"), looks := false }, kinds := [], alts := [], laidByText := true, laidKinds := [.data, .pinned], laidTests := true, laidLooks := .later }
def SpanBackUptoCardSaid : Prop := Claim7.holds Tryd.pinned (.plain (OpenSpec.upto spanBackSpec)) spanBackUptoCard

/-- THE SECOND FORM's CARD OF 'passimlaw19.SpanMore'. -/
def spanMoreUptoCard : Claim7 := { stood := { row := spanMoreUptoRow, standIns := [], harness := (true, "070d0169c5a87758a7362f23f7d27315fc270d9b1ccefde91404ed4ac861eba2"), looks := false }, kinds := [], alts := [], laidByText := true, laidKinds := [.data, .pinned], laidTests := true, laidLooks := .later }
def SpanMoreUptoCardSaid : Prop := Claim7.holds Tryd.pinned (.plain (OpenSpec.upto spanMoreSpec)) spanMoreUptoCard

/-- THE SECOND FORM's CARD OF 'passimlaw19.SpanUnique'. -/
def spanUniqueUptoCard : Claim7 := { stood := { row := spanUniqueUptoRow, standIns := [], harness := (true, "070d0169c5a87758a7362f23f7d27315fc270d9b1ccefde91404ed4ac861eba2"), looks := false }, kinds := [], alts := [], laidByText := true, laidKinds := [.data, .pinned], laidTests := true, laidLooks := .later }
def SpanUniqueUptoCardSaid : Prop := Claim7.holds Tryd.pinned (.plain (OpenSpec.upto spanUniqueSpec)) spanUniqueUptoCard

/-- THE SECOND FORM's CARD OF 'passimlaw19.SpanReads'. -/
def spanReadsUptoCard : Claim7 := { stood := { row := spanReadsUptoRow, standIns := [], harness := (true, "070d0169c5a87758a7362f23f7d27315fc270d9b1ccefde91404ed4ac861eba2"), looks := false }, kinds := [], alts := [], laidByText := true, laidKinds := [.data, .pinned], laidTests := true, laidLooks := .later }
def SpanReadsUptoCardSaid : Prop := Claim7.holds Tryd.pinned (.plain (OpenSpec.upto spanReadsSpec)) spanReadsUptoCard

/-- THE SECOND FORM's CARD OF 'passimlaw19.SpanNormal'. -/
def spanNormalUptoCard : Claim7 := { stood := { row := spanNormalUptoRow, standIns := [], harness := (true, "070d0169c5a87758a7362f23f7d27315fc270d9b1ccefde91404ed4ac861eba2"), looks := false }, kinds := [], alts := [], laidByText := true, laidKinds := [.data, .pinned], laidTests := true, laidLooks := .later }
def SpanNormalUptoCardSaid : Prop := Claim7.holds Tryd.pinned (.plain (OpenSpec.upto spanNormalSpec)) spanNormalUptoCard
end Rows
end Go.Proofs.YtecdkpcapalifaaDoor
