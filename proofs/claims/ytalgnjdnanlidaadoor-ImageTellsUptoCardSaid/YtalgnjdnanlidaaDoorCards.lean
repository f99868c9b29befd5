/-
  DERIVED. GIVEN WITH THE SEED: THE CARDS: each row of YtalgnjdnanlidaaDoorRows.lean that lists a variable, with what it lists TIED to the program's text (the seventh form; the later family's looks); each row that meets fmt, with fmt's text TOLD by the authors' own Lean function (tested against real Go, not proved from fmt's source: count such statements apart). THE CARD IS WHAT COUNTS. Prove the row's statement (the work); the ties are given (YtalgnjdnanlidaaDoorTie.lean); close each card by the builder's one call (the guide's Derived/Test/ToyasCard.lean, 'card_holds'). Laid BY PROGRAM, IN A SANDBOX (cutbox-door.mjs). By AI agents, Wed Nov 11 2026. No macro, syntax, notation, axiom, sorry.
-/
import Derived.Test.YtalgnjdnanlidaaDoorRows
import GoSem.ClaimSeven
namespace Go.Proofs.YtalgnjdnanlidaaDoor
namespace Rows

/-- THE TIED CARD OF 'stairlaw4.LogSame'. -/
def logSameCard : Claim7 := { stood := { row := logSameRow, standIns := [], harness := (true, "7456984b0ee6f9d0ccfd8ac652f1365dc2aa57a73fb76b5dfca0ae397be26e10"), looks := true }, kinds := [], alts := [], laidByText := true, laidKinds := [.data, .data, .data, .sentinel, .sentinel], laidTests := true, laidLooks := .later }
def LogSameCardSaid : Prop := Claim7.holds Tryd.pinned (.plain (OpenSpec.ofChange logSameSpec)) logSameCard

/-- THE TIED CARD OF 'stairlaw1.ImageBack'. -/
def imageBackCard : Claim7 := { stood := { row := imageBackRow, standIns := [], harness := (true, "7456984b0ee6f9d0ccfd8ac652f1365dc2aa57a73fb76b5dfca0ae397be26e10"), looks := true }, kinds := [], alts := [], laidByText := true, laidKinds := [.data, .data, .data, .data, .sentinel, .sentinel, .pinned], laidTests := true, laidLooks := .later }
def ImageBackCardSaid : Prop := Claim7.holds Tryd.pinned (.plain (OpenSpec.ofChange imageBackSpec)) imageBackCard

/-- THE TIED CARD OF 'stairlaw1.ImageTells'. -/
def imageTellsCard : Claim7 := { stood := { row := imageTellsRow, standIns := [], harness := (true, "7456984b0ee6f9d0ccfd8ac652f1365dc2aa57a73fb76b5dfca0ae397be26e10"), looks := true }, kinds := [], alts := [], laidByText := true, laidKinds := [.data, .data, .data, .data, .handle, .sentinel, .sentinel, .pinned], laidTests := true, laidLooks := .later }
def ImageTellsCardSaid : Prop := Claim7.holds Tryd.pinned (.plain (OpenSpec.ofChange imageTellsSpec)) imageTellsCard

/-- THE TIED CARD OF 'stairlaw3.LogStops'. -/
def logStopsCard : Claim7 := { stood := { row := logStopsRow, standIns := [], harness := (true, "7456984b0ee6f9d0ccfd8ac652f1365dc2aa57a73fb76b5dfca0ae397be26e10"), looks := true }, kinds := [], alts := [], laidByText := true, laidKinds := [.data, .data, .data, .handle, .sentinel, .sentinel], laidTests := true, laidLooks := .later }
def LogStopsCardSaid : Prop := Claim7.holds Tryd.pinned (.plain (OpenSpec.ofChange logStopsSpec)) logStopsCard

/-- THE SECOND FORM's CARD OF 'stairlaw4.LogSame'. -/
def logSameUptoCard : Claim7 := { stood := { row := logSameUptoRow, standIns := [], harness := (true, "7456984b0ee6f9d0ccfd8ac652f1365dc2aa57a73fb76b5dfca0ae397be26e10"), looks := true }, kinds := [], alts := [], laidByText := true, laidKinds := [.data, .data, .data, .sentinel, .sentinel], laidTests := true, laidLooks := .later }
def LogSameUptoCardSaid : Prop := Claim7.holds Tryd.pinned (.plain (OpenSpec.upto logSameSpec)) logSameUptoCard

/-- THE SECOND FORM's CARD OF 'stairlaw1.ImageBack'. -/
def imageBackUptoCard : Claim7 := { stood := { row := imageBackUptoRow, standIns := [], harness := (true, "7456984b0ee6f9d0ccfd8ac652f1365dc2aa57a73fb76b5dfca0ae397be26e10"), looks := true }, kinds := [], alts := [], laidByText := true, laidKinds := [.data, .data, .data, .data, .sentinel, .sentinel, .pinned], laidTests := true, laidLooks := .later }
def ImageBackUptoCardSaid : Prop := Claim7.holds Tryd.pinned (.plain (OpenSpec.upto imageBackSpec)) imageBackUptoCard

/-- THE SECOND FORM's CARD OF 'stairlaw1.ImageTells'. -/
def imageTellsUptoCard : Claim7 := { stood := { row := imageTellsUptoRow, standIns := [], harness := (true, "7456984b0ee6f9d0ccfd8ac652f1365dc2aa57a73fb76b5dfca0ae397be26e10"), looks := true }, kinds := [], alts := [], laidByText := true, laidKinds := [.data, .data, .data, .data, .handle, .sentinel, .sentinel, .pinned], laidTests := true, laidLooks := .later }
def ImageTellsUptoCardSaid : Prop := Claim7.holds Tryd.pinned (.plain (OpenSpec.upto imageTellsSpec)) imageTellsUptoCard

/-- THE SECOND FORM's CARD OF 'stairlaw3.LogStops'. -/
def logStopsUptoCard : Claim7 := { stood := { row := logStopsUptoRow, standIns := [], harness := (true, "7456984b0ee6f9d0ccfd8ac652f1365dc2aa57a73fb76b5dfca0ae397be26e10"), looks := true }, kinds := [], alts := [], laidByText := true, laidKinds := [.data, .data, .data, .handle, .sentinel, .sentinel], laidTests := true, laidLooks := .later }
def LogStopsUptoCardSaid : Prop := Claim7.holds Tryd.pinned (.plain (OpenSpec.upto logStopsSpec)) logStopsUptoCard
end Rows
end Go.Proofs.YtalgnjdnanlidaaDoor
