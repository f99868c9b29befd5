/-
  DERIVED. GIVEN WITH THE SEED: THE CARDS: each row of YtflhbnaocognlaaDoorRows.lean that lists a variable, with what it lists TIED to the program's text (the seventh form; the later family's looks); each row that meets fmt, with fmt's text TOLD by the authors' own Lean function (tested against real Go, not proved from fmt's source: count such statements apart). THE CARD IS WHAT COUNTS. Prove the row's statement (the work); the ties are given (YtflhbnaocognlaaDoorTie.lean); close each card by the builder's one call (the guide's Derived/Test/ToyasCard.lean, 'card_holds'). Laid BY PROGRAM, IN A SANDBOX (cutbox-door.mjs). By AI agents, Wed Nov 11 2026. No macro, syntax, notation, axiom, sorry.
-/
import Derived.Test.YtflhbnaocognlaaDoorRows
import GoSem.ClaimSeven
namespace Go.Proofs.YtflhbnaocognlaaDoor
namespace Rows

/-- THE TIED CARD OF 'stairlaw4.UpdateSame'. -/
def updateSameCard : Claim7 := { stood := { row := updateSameRow, standIns := [], harness := (true, "fb8d7998f80537ad845fad790a1d2a7b1c995201328d8fd036a61c3166d31619"), looks := true }, kinds := [], alts := [], laidByText := true, laidKinds := [.data, .data, .data, .handle], laidTests := true, laidLooks := .later }
def UpdateSameCardSaid : Prop := Claim7.holds Tryd.pinned (.plain (OpenSpec.ofChange updateSameSpec)) updateSameCard

/-- THE TIED CARD OF 'stairlaw4.DeviceOff'. -/
def deviceOffCard : Claim7 := { stood := { row := deviceOffRow, standIns := [], harness := (true, "fb8d7998f80537ad845fad790a1d2a7b1c995201328d8fd036a61c3166d31619"), looks := true }, kinds := [], alts := [], laidByText := true, laidKinds := [.data, .data, .data, .handle], laidTests := true, laidLooks := .later }
def DeviceOffCardSaid : Prop := Claim7.holds Tryd.pinned (.plain (OpenSpec.ofChange deviceOffSpec)) deviceOffCard

/-- THE TIED CARD OF 'stairlaw2.UpdateNewer'. -/
def updateNewerCard : Claim7 := { stood := { row := updateNewerRow, standIns := [], harness := (true, "fb8d7998f80537ad845fad790a1d2a7b1c995201328d8fd036a61c3166d31619"), looks := true }, kinds := [], alts := [], laidByText := true, laidKinds := [.data, .data, .data, .handle], laidTests := true, laidLooks := .later }
def UpdateNewerCardSaid : Prop := Claim7.holds Tryd.pinned (.plain (OpenSpec.ofChange updateNewerSpec)) updateNewerCard

/-- THE SECOND FORM's CARD OF 'stairlaw4.UpdateSame'. -/
def updateSameUptoCard : Claim7 := { stood := { row := updateSameUptoRow, standIns := [], harness := (true, "fb8d7998f80537ad845fad790a1d2a7b1c995201328d8fd036a61c3166d31619"), looks := true }, kinds := [], alts := [], laidByText := true, laidKinds := [.data, .data, .data, .handle], laidTests := true, laidLooks := .later }
def UpdateSameUptoCardSaid : Prop := Claim7.holds Tryd.pinned (.plain (OpenSpec.upto updateSameSpec)) updateSameUptoCard

/-- THE SECOND FORM's CARD OF 'stairlaw4.DeviceOff'. -/
def deviceOffUptoCard : Claim7 := { stood := { row := deviceOffUptoRow, standIns := [], harness := (true, "fb8d7998f80537ad845fad790a1d2a7b1c995201328d8fd036a61c3166d31619"), looks := true }, kinds := [], alts := [], laidByText := true, laidKinds := [.data, .data, .data, .handle], laidTests := true, laidLooks := .later }
def DeviceOffUptoCardSaid : Prop := Claim7.holds Tryd.pinned (.plain (OpenSpec.upto deviceOffSpec)) deviceOffUptoCard

/-- THE SECOND FORM's CARD OF 'stairlaw2.UpdateNewer'. -/
def updateNewerUptoCard : Claim7 := { stood := { row := updateNewerUptoRow, standIns := [], harness := (true, "fb8d7998f80537ad845fad790a1d2a7b1c995201328d8fd036a61c3166d31619"), looks := true }, kinds := [], alts := [], laidByText := true, laidKinds := [.data, .data, .data, .handle], laidTests := true, laidLooks := .later }
def UpdateNewerUptoCardSaid : Prop := Claim7.holds Tryd.pinned (.plain (OpenSpec.upto updateNewerSpec)) updateNewerUptoCard
end Rows
end Go.Proofs.YtflhbnaocognlaaDoor
