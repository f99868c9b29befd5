/-
  DERIVED. GIVEN WITH THE SEED: THE CARDS: each row of YtflhbnaocognlaaGreatDoorRows.lean that lists a variable, with what it lists TIED to the program's text (the seventh form; the later family's looks); each row that meets fmt, with fmt's text TOLD by the authors' own Lean function (tested against real Go, not proved from fmt's source: count such statements apart). THE CARD IS WHAT COUNTS. Prove the row's statement (the work); the ties are given (YtflhbnaocognlaaGreatDoorTie.lean); close each card by the builder's one call (the guide's Derived/Test/ToyasCard.lean, 'card_holds'). Laid BY PROGRAM, IN A SANDBOX (cutbox-door.mjs). By AI agents, Wed Nov 11 2026. No macro, syntax, notation, axiom, sorry.
-/
import Derived.Test.YtflhbnaocognlaaGreatDoorRows
import GoSem.ClaimSeven
namespace Go.Proofs.YtflhbnaocognlaaGreatDoor
namespace Rows

/-- THE TIED CARD OF 'stairlaw2.UpdatePlays'. -/
def updatePlaysCard : Claim7 := { stood := { row := updatePlaysRow, standIns := [], harness := (true, "468c7fe91c92af3308dd8b80b771264ae09792802c3ef4f367a860dce6fefd1e"), looks := true }, kinds := [], alts := [], laidByText := true, laidKinds := [.data, .data, .data, .handle], laidTests := true, laidLooks := .later }
def UpdatePlaysCardSaid : Prop := Claim7.holds Tryz.pinned (.plain (OpenSpec.ofChange updatePlaysSpec)) updatePlaysCard

/-- THE SECOND FORM's CARD OF 'stairlaw2.UpdatePlays'. -/
def updatePlaysUptoCard : Claim7 := { stood := { row := updatePlaysUptoRow, standIns := [], harness := (true, "468c7fe91c92af3308dd8b80b771264ae09792802c3ef4f367a860dce6fefd1e"), looks := true }, kinds := [], alts := [], laidByText := true, laidKinds := [.data, .data, .data, .handle], laidTests := true, laidLooks := .later }
def UpdatePlaysUptoCardSaid : Prop := Claim7.holds Tryz.pinned (.plain (OpenSpec.upto updatePlaysSpec)) updatePlaysUptoCard
end Rows
end Go.Proofs.YtflhbnaocognlaaGreatDoor
