/-
  DERIVED. GIVEN WITH THE SEED: THE CARDS: each row of YtdedllfgeekogaaGreatDoorRows.lean that lists a variable, with what it lists TIED to the program's text (the seventh form; the later family's looks); each row that meets fmt, with fmt's text TOLD by the authors' own Lean function (tested against real Go, not proved from fmt's source: count such statements apart). THE CARD IS WHAT COUNTS. Prove the row's statement (the work); the ties are given (YtdedllfgeekogaaGreatDoorTie.lean); close each card by the builder's one call (the guide's Derived/Test/ToyasCard.lean, 'card_holds'). Laid BY PROGRAM, IN A SANDBOX (cutbox-door.mjs). By AI agents, Wed Nov 11 2026. No macro, syntax, notation, axiom, sorry.
-/
import Derived.Test.YtdedllfgeekogaaGreatDoorRows
import GoSem.ClaimSeven
namespace Go.Proofs.YtdedllfgeekogaaGreatDoor
namespace Rows

/-- THE TIED CARD OF 'stairtop.TopSealed'. -/
def topSealedCard : Claim7 := { stood := { row := topSealedRow, standIns := [], harness := (true, "c7f97da3797764628077945dc00a6e8025f0a5e2955abc53df875ff912747430"), looks := true }, kinds := [], alts := [], laidByText := true, laidKinds := [.data, .data, .data, .handle], laidTests := true, laidLooks := .later }
def TopSealedCardSaid : Prop := Claim7.holds Tryz.pinned (.plain (OpenSpec.ofChange topSealedSpec)) topSealedCard

/-- THE TIED CARD OF 'stairlaw2.DevicePlays'. -/
def devicePlaysCard : Claim7 := { stood := { row := devicePlaysRow, standIns := [], harness := (true, "c7f97da3797764628077945dc00a6e8025f0a5e2955abc53df875ff912747430"), looks := true }, kinds := [], alts := [], laidByText := true, laidKinds := [.data, .data, .data, .handle], laidTests := true, laidLooks := .later }
def DevicePlaysCardSaid : Prop := Claim7.holds Tryz.pinned (.plain (OpenSpec.ofChange devicePlaysSpec)) devicePlaysCard

/-- THE TIED CARD OF 'stairlaw2.DeviceNever'. -/
def deviceNeverCard : Claim7 := { stood := { row := deviceNeverRow, standIns := [], harness := (true, "c7f97da3797764628077945dc00a6e8025f0a5e2955abc53df875ff912747430"), looks := true }, kinds := [], alts := [], laidByText := true, laidKinds := [.data, .data, .data, .handle], laidTests := true, laidLooks := .later }
def DeviceNeverCardSaid : Prop := Claim7.holds Tryz.pinned (.plain (OpenSpec.ofChange deviceNeverSpec)) deviceNeverCard

/-- THE SECOND FORM's CARD OF 'stairtop.TopSealed'. -/
def topSealedUptoCard : Claim7 := { stood := { row := topSealedUptoRow, standIns := [], harness := (true, "c7f97da3797764628077945dc00a6e8025f0a5e2955abc53df875ff912747430"), looks := true }, kinds := [], alts := [], laidByText := true, laidKinds := [.data, .data, .data, .handle], laidTests := true, laidLooks := .later }
def TopSealedUptoCardSaid : Prop := Claim7.holds Tryz.pinned (.plain (OpenSpec.upto topSealedSpec)) topSealedUptoCard

/-- THE SECOND FORM's CARD OF 'stairlaw2.DevicePlays'. -/
def devicePlaysUptoCard : Claim7 := { stood := { row := devicePlaysUptoRow, standIns := [], harness := (true, "c7f97da3797764628077945dc00a6e8025f0a5e2955abc53df875ff912747430"), looks := true }, kinds := [], alts := [], laidByText := true, laidKinds := [.data, .data, .data, .handle], laidTests := true, laidLooks := .later }
def DevicePlaysUptoCardSaid : Prop := Claim7.holds Tryz.pinned (.plain (OpenSpec.upto devicePlaysSpec)) devicePlaysUptoCard

/-- THE SECOND FORM's CARD OF 'stairlaw2.DeviceNever'. -/
def deviceNeverUptoCard : Claim7 := { stood := { row := deviceNeverUptoRow, standIns := [], harness := (true, "c7f97da3797764628077945dc00a6e8025f0a5e2955abc53df875ff912747430"), looks := true }, kinds := [], alts := [], laidByText := true, laidKinds := [.data, .data, .data, .handle], laidTests := true, laidLooks := .later }
def DeviceNeverUptoCardSaid : Prop := Claim7.holds Tryz.pinned (.plain (OpenSpec.upto deviceNeverSpec)) deviceNeverUptoCard
end Rows
end Go.Proofs.YtdedllfgeekogaaGreatDoor
