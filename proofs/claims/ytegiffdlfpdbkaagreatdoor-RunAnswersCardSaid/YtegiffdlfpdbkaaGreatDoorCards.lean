/-
  DERIVED. GIVEN WITH THE SEED: THE CARDS: each row of YtegiffdlfpdbkaaGreatDoorRows.lean that lists a variable, with what it lists TIED to the program's text (the seventh form; the later family's looks); each row that meets fmt, with fmt's text TOLD by the authors' own Lean function (tested against real Go, not proved from fmt's source: count such statements apart). THE CARD IS WHAT COUNTS. Prove the row's statement (the work); the ties are given (YtegiffdlfpdbkaaGreatDoorTie.lean); close each card by the builder's one call (the guide's Derived/Test/ToyasCard.lean, 'card_holds'). Laid BY PROGRAM, IN A SANDBOX (cutbox-door.mjs). By AI agents, Wed Nov 11 2026. No macro, syntax, notation, axiom, sorry.
-/
import Derived.Test.YtegiffdlfpdbkaaGreatDoorRows
import GoSem.ClaimSeven
namespace Go.Proofs.YtegiffdlfpdbkaaGreatDoor
namespace Rows

/-- THE TIED CARD OF 'stairlaw3.RunAnswers'. -/
def runAnswersCard : Claim7 := { stood := { row := runAnswersRow, standIns := [], harness := (true, "d3a285e5532d0f652d975128370cf02bc9770ab3620e5c95fa309865b5436a75"), looks := true }, kinds := [], alts := [], laidByText := true, laidKinds := [.data, .data, .data, .data, .handle, .sentinel, .sentinel, .wider, .pinned], laidTests := true, laidLooks := .later }
def RunAnswersCardSaid : Prop := Claim7.holds Tryz.pinned (.plain (OpenSpec.ofChange runAnswersSpec)) runAnswersCard

/-- THE TIED CARD OF 'stairlaw3.RunBegins'. -/
def runBeginsCard : Claim7 := { stood := { row := runBeginsRow, standIns := [], harness := (true, "d3a285e5532d0f652d975128370cf02bc9770ab3620e5c95fa309865b5436a75"), looks := true }, kinds := [], alts := [], laidByText := true, laidKinds := [.data, .data, .data, .data, .handle, .sentinel, .sentinel, .wider, .pinned], laidTests := true, laidLooks := .later }
def RunBeginsCardSaid : Prop := Claim7.holds Tryz.pinned (.plain (OpenSpec.ofChange runBeginsSpec)) runBeginsCard

/-- THE TIED CARD OF 'stairlaw3.RunSeals'. -/
def runSealsCard : Claim7 := { stood := { row := runSealsRow, standIns := [], harness := (true, "d3a285e5532d0f652d975128370cf02bc9770ab3620e5c95fa309865b5436a75"), looks := true }, kinds := [], alts := [], laidByText := true, laidKinds := [.data, .data, .data, .data, .handle, .sentinel, .sentinel, .wider, .pinned], laidTests := true, laidLooks := .later }
def RunSealsCardSaid : Prop := Claim7.holds Tryz.pinned (.plain (OpenSpec.ofChange runSealsSpec)) runSealsCard

/-- THE SECOND FORM's CARD OF 'stairlaw3.RunAnswers'. -/
def runAnswersUptoCard : Claim7 := { stood := { row := runAnswersUptoRow, standIns := [], harness := (true, "d3a285e5532d0f652d975128370cf02bc9770ab3620e5c95fa309865b5436a75"), looks := true }, kinds := [], alts := [], laidByText := true, laidKinds := [.data, .data, .data, .data, .handle, .sentinel, .sentinel, .wider, .pinned], laidTests := true, laidLooks := .later }
def RunAnswersUptoCardSaid : Prop := Claim7.holds Tryz.pinned (.plain (OpenSpec.upto runAnswersSpec)) runAnswersUptoCard

/-- THE SECOND FORM's CARD OF 'stairlaw3.RunBegins'. -/
def runBeginsUptoCard : Claim7 := { stood := { row := runBeginsUptoRow, standIns := [], harness := (true, "d3a285e5532d0f652d975128370cf02bc9770ab3620e5c95fa309865b5436a75"), looks := true }, kinds := [], alts := [], laidByText := true, laidKinds := [.data, .data, .data, .data, .handle, .sentinel, .sentinel, .wider, .pinned], laidTests := true, laidLooks := .later }
def RunBeginsUptoCardSaid : Prop := Claim7.holds Tryz.pinned (.plain (OpenSpec.upto runBeginsSpec)) runBeginsUptoCard

/-- THE SECOND FORM's CARD OF 'stairlaw3.RunSeals'. -/
def runSealsUptoCard : Claim7 := { stood := { row := runSealsUptoRow, standIns := [], harness := (true, "d3a285e5532d0f652d975128370cf02bc9770ab3620e5c95fa309865b5436a75"), looks := true }, kinds := [], alts := [], laidByText := true, laidKinds := [.data, .data, .data, .data, .handle, .sentinel, .sentinel, .wider, .pinned], laidTests := true, laidLooks := .later }
def RunSealsUptoCardSaid : Prop := Claim7.holds Tryz.pinned (.plain (OpenSpec.upto runSealsSpec)) runSealsUptoCard
end Rows
end Go.Proofs.YtegiffdlfpdbkaaGreatDoor
