/-
  DERIVED. GIVEN WITH THE SEED: THE CARDS: each row of YtnocigkfhdnhfaaDoorRows.lean that lists a variable, with what it lists TIED to the program's text (the seventh form; the later family's looks); each row that meets fmt, with fmt's text TOLD by the authors' own Lean function (tested against real Go, not proved from fmt's source: count such statements apart). THE CARD IS WHAT COUNTS. Prove the row's statement (the work); the ties are given (YtnocigkfhdnhfaaDoorTie.lean); close each card by the builder's one call (the guide's Derived/Test/ToyasCard.lean, 'card_holds'). Laid BY PROGRAM, IN A SANDBOX (cutbox-door.mjs). By AI agents, Wed Nov 11 2026. No macro, syntax, notation, axiom, sorry.
-/
import Derived.Test.YtnocigkfhdnhfaaDoorRows
import GoSem.ClaimSeven
namespace Go.Proofs.YtnocigkfhdnhfaaDoor
namespace Rows

/-- THE TIED CARD OF 'stairlaw4.ImageLong'. -/
def imageLongCard : Claim7 := { stood := { row := imageLongRow, standIns := [], harness := (true, "d96ee58e06c39b3f6f069eded1910d0df8efaa5224c73b50f6fa0bbf74c97537"), looks := true }, kinds := [], alts := [], laidByText := true, laidKinds := [.handle], laidTests := true, laidLooks := .later }
def ImageLongCardSaid : Prop := Claim7.holds Tryd.pinned (.plain (OpenSpec.ofChange imageLongSpec)) imageLongCard

/-- THE TIED CARD OF 'stairlaw4.CountFull'. -/
def countFullCard : Claim7 := { stood := { row := countFullRow, standIns := [], harness := (true, "d96ee58e06c39b3f6f069eded1910d0df8efaa5224c73b50f6fa0bbf74c97537"), looks := true }, kinds := [], alts := [], laidByText := true, laidKinds := [.handle], laidTests := true, laidLooks := .later }
def CountFullCardSaid : Prop := Claim7.holds Tryd.pinned (.plain (OpenSpec.ofChange countFullSpec)) countFullCard

/-- THE TIED CARD OF 'stairlaw2.CountRises'. -/
def countRisesCard : Claim7 := { stood := { row := countRisesRow, standIns := [], harness := (true, "d96ee58e06c39b3f6f069eded1910d0df8efaa5224c73b50f6fa0bbf74c97537"), looks := true }, kinds := [], alts := [], laidByText := true, laidKinds := [.handle], laidTests := true, laidLooks := .later }
def CountRisesCardSaid : Prop := Claim7.holds Tryd.pinned (.plain (OpenSpec.ofChange countRisesSpec)) countRisesCard

/-- THE TIED CARD OF 'stairlaw2.CountPlays'. -/
def countPlaysCard : Claim7 := { stood := { row := countPlaysRow, standIns := [], harness := (true, "d96ee58e06c39b3f6f069eded1910d0df8efaa5224c73b50f6fa0bbf74c97537"), looks := true }, kinds := [], alts := [], laidByText := true, laidKinds := [.handle], laidTests := true, laidLooks := .later }
def CountPlaysCardSaid : Prop := Claim7.holds Tryd.pinned (.plain (OpenSpec.ofChange countPlaysSpec)) countPlaysCard

/-- THE TIED CARD OF 'stairlaw4.SlotFirst'. -/
def slotFirstCard : Claim7 := { stood := { row := slotFirstRow, standIns := [], harness := (true, "d96ee58e06c39b3f6f069eded1910d0df8efaa5224c73b50f6fa0bbf74c97537"), looks := true }, kinds := [], alts := [], laidByText := true, laidKinds := [.handle], laidTests := true, laidLooks := .later }
def SlotFirstCardSaid : Prop := Claim7.holds Tryd.pinned (.plain (OpenSpec.ofChange slotFirstSpec)) slotFirstCard

/-- THE TIED CARD OF 'stairlaw2.SlotPlays'. -/
def slotPlaysCard : Claim7 := { stood := { row := slotPlaysRow, standIns := [], harness := (true, "d96ee58e06c39b3f6f069eded1910d0df8efaa5224c73b50f6fa0bbf74c97537"), looks := true }, kinds := [], alts := [], laidByText := true, laidKinds := [.handle], laidTests := true, laidLooks := .later }
def SlotPlaysCardSaid : Prop := Claim7.holds Tryd.pinned (.plain (OpenSpec.ofChange slotPlaysSpec)) slotPlaysCard

/-- THE TIED CARD OF 'stairlaw4.SignNone'. -/
def signNoneCard : Claim7 := { stood := { row := signNoneRow, standIns := [], harness := (true, "d96ee58e06c39b3f6f069eded1910d0df8efaa5224c73b50f6fa0bbf74c97537"), looks := true }, kinds := [], alts := [], laidByText := true, laidKinds := [.data, .data, .data], laidTests := true, laidLooks := .later }
def SignNoneCardSaid : Prop := Claim7.holds Tryd.pinned (.plain (OpenSpec.ofChange signNoneSpec)) signNoneCard

/-- THE TIED CARD OF 'stairlaw4.BootNone'. -/
def bootNoneCard : Claim7 := { stood := { row := bootNoneRow, standIns := [], harness := (true, "d96ee58e06c39b3f6f069eded1910d0df8efaa5224c73b50f6fa0bbf74c97537"), looks := true }, kinds := [], alts := [], laidByText := true, laidKinds := [.data, .data, .data], laidTests := true, laidLooks := .later }
def BootNoneCardSaid : Prop := Claim7.holds Tryd.pinned (.plain (OpenSpec.ofChange bootNoneSpec)) bootNoneCard

/-- THE TIED CARD OF 'stairlaw1.SignTells'. -/
def signTellsCard : Claim7 := { stood := { row := signTellsRow, standIns := [], harness := (true, "d96ee58e06c39b3f6f069eded1910d0df8efaa5224c73b50f6fa0bbf74c97537"), looks := true }, kinds := [], alts := [], laidByText := true, laidKinds := [.data, .data, .data, .handle], laidTests := true, laidLooks := .later }
def SignTellsCardSaid : Prop := Claim7.holds Tryd.pinned (.plain (OpenSpec.ofChange signTellsSpec)) signTellsCard

/-- THE TIED CARD OF 'stairlaw1.SignHolds'. -/
def signHoldsCard : Claim7 := { stood := { row := signHoldsRow, standIns := [], harness := (true, "d96ee58e06c39b3f6f069eded1910d0df8efaa5224c73b50f6fa0bbf74c97537"), looks := true }, kinds := [], alts := [], laidByText := true, laidKinds := [.data, .data, .data, .handle], laidTests := true, laidLooks := .later }
def SignHoldsCardSaid : Prop := Claim7.holds Tryd.pinned (.plain (OpenSpec.ofChange signHoldsSpec)) signHoldsCard

/-- THE TIED CARD OF 'stairlaw2.BootMeasures'. -/
def bootMeasuresCard : Claim7 := { stood := { row := bootMeasuresRow, standIns := [], harness := (true, "d96ee58e06c39b3f6f069eded1910d0df8efaa5224c73b50f6fa0bbf74c97537"), looks := true }, kinds := [], alts := [], laidByText := true, laidKinds := [.data, .data, .data], laidTests := true, laidLooks := .later }
def BootMeasuresCardSaid : Prop := Claim7.holds Tryd.pinned (.plain (OpenSpec.ofChange bootMeasuresSpec)) bootMeasuresCard

/-- THE TIED CARD OF 'stairlaw2.BootTells'. -/
def bootTellsCard : Claim7 := { stood := { row := bootTellsRow, standIns := [], harness := (true, "d96ee58e06c39b3f6f069eded1910d0df8efaa5224c73b50f6fa0bbf74c97537"), looks := true }, kinds := [], alts := [], laidByText := true, laidKinds := [.data, .data, .data, .handle], laidTests := true, laidLooks := .later }
def BootTellsCardSaid : Prop := Claim7.holds Tryd.pinned (.plain (OpenSpec.ofChange bootTellsSpec)) bootTellsCard

/-- THE SECOND FORM's CARD OF 'stairlaw4.ImageLong'. -/
def imageLongUptoCard : Claim7 := { stood := { row := imageLongUptoRow, standIns := [], harness := (true, "d96ee58e06c39b3f6f069eded1910d0df8efaa5224c73b50f6fa0bbf74c97537"), looks := true }, kinds := [], alts := [], laidByText := true, laidKinds := [.handle], laidTests := true, laidLooks := .later }
def ImageLongUptoCardSaid : Prop := Claim7.holds Tryd.pinned (.plain (OpenSpec.upto imageLongSpec)) imageLongUptoCard

/-- THE SECOND FORM's CARD OF 'stairlaw4.CountFull'. -/
def countFullUptoCard : Claim7 := { stood := { row := countFullUptoRow, standIns := [], harness := (true, "d96ee58e06c39b3f6f069eded1910d0df8efaa5224c73b50f6fa0bbf74c97537"), looks := true }, kinds := [], alts := [], laidByText := true, laidKinds := [.handle], laidTests := true, laidLooks := .later }
def CountFullUptoCardSaid : Prop := Claim7.holds Tryd.pinned (.plain (OpenSpec.upto countFullSpec)) countFullUptoCard

/-- THE SECOND FORM's CARD OF 'stairlaw2.CountRises'. -/
def countRisesUptoCard : Claim7 := { stood := { row := countRisesUptoRow, standIns := [], harness := (true, "d96ee58e06c39b3f6f069eded1910d0df8efaa5224c73b50f6fa0bbf74c97537"), looks := true }, kinds := [], alts := [], laidByText := true, laidKinds := [.handle], laidTests := true, laidLooks := .later }
def CountRisesUptoCardSaid : Prop := Claim7.holds Tryd.pinned (.plain (OpenSpec.upto countRisesSpec)) countRisesUptoCard

/-- THE SECOND FORM's CARD OF 'stairlaw2.CountPlays'. -/
def countPlaysUptoCard : Claim7 := { stood := { row := countPlaysUptoRow, standIns := [], harness := (true, "d96ee58e06c39b3f6f069eded1910d0df8efaa5224c73b50f6fa0bbf74c97537"), looks := true }, kinds := [], alts := [], laidByText := true, laidKinds := [.handle], laidTests := true, laidLooks := .later }
def CountPlaysUptoCardSaid : Prop := Claim7.holds Tryd.pinned (.plain (OpenSpec.upto countPlaysSpec)) countPlaysUptoCard

/-- THE SECOND FORM's CARD OF 'stairlaw4.SlotFirst'. -/
def slotFirstUptoCard : Claim7 := { stood := { row := slotFirstUptoRow, standIns := [], harness := (true, "d96ee58e06c39b3f6f069eded1910d0df8efaa5224c73b50f6fa0bbf74c97537"), looks := true }, kinds := [], alts := [], laidByText := true, laidKinds := [.handle], laidTests := true, laidLooks := .later }
def SlotFirstUptoCardSaid : Prop := Claim7.holds Tryd.pinned (.plain (OpenSpec.upto slotFirstSpec)) slotFirstUptoCard

/-- THE SECOND FORM's CARD OF 'stairlaw2.SlotPlays'. -/
def slotPlaysUptoCard : Claim7 := { stood := { row := slotPlaysUptoRow, standIns := [], harness := (true, "d96ee58e06c39b3f6f069eded1910d0df8efaa5224c73b50f6fa0bbf74c97537"), looks := true }, kinds := [], alts := [], laidByText := true, laidKinds := [.handle], laidTests := true, laidLooks := .later }
def SlotPlaysUptoCardSaid : Prop := Claim7.holds Tryd.pinned (.plain (OpenSpec.upto slotPlaysSpec)) slotPlaysUptoCard

/-- THE SECOND FORM's CARD OF 'stairlaw4.SignNone'. -/
def signNoneUptoCard : Claim7 := { stood := { row := signNoneUptoRow, standIns := [], harness := (true, "d96ee58e06c39b3f6f069eded1910d0df8efaa5224c73b50f6fa0bbf74c97537"), looks := true }, kinds := [], alts := [], laidByText := true, laidKinds := [.data, .data, .data], laidTests := true, laidLooks := .later }
def SignNoneUptoCardSaid : Prop := Claim7.holds Tryd.pinned (.plain (OpenSpec.upto signNoneSpec)) signNoneUptoCard

/-- THE SECOND FORM's CARD OF 'stairlaw4.BootNone'. -/
def bootNoneUptoCard : Claim7 := { stood := { row := bootNoneUptoRow, standIns := [], harness := (true, "d96ee58e06c39b3f6f069eded1910d0df8efaa5224c73b50f6fa0bbf74c97537"), looks := true }, kinds := [], alts := [], laidByText := true, laidKinds := [.data, .data, .data], laidTests := true, laidLooks := .later }
def BootNoneUptoCardSaid : Prop := Claim7.holds Tryd.pinned (.plain (OpenSpec.upto bootNoneSpec)) bootNoneUptoCard

/-- THE SECOND FORM's CARD OF 'stairlaw1.SignTells'. -/
def signTellsUptoCard : Claim7 := { stood := { row := signTellsUptoRow, standIns := [], harness := (true, "d96ee58e06c39b3f6f069eded1910d0df8efaa5224c73b50f6fa0bbf74c97537"), looks := true }, kinds := [], alts := [], laidByText := true, laidKinds := [.data, .data, .data, .handle], laidTests := true, laidLooks := .later }
def SignTellsUptoCardSaid : Prop := Claim7.holds Tryd.pinned (.plain (OpenSpec.upto signTellsSpec)) signTellsUptoCard

/-- THE SECOND FORM's CARD OF 'stairlaw1.SignHolds'. -/
def signHoldsUptoCard : Claim7 := { stood := { row := signHoldsUptoRow, standIns := [], harness := (true, "d96ee58e06c39b3f6f069eded1910d0df8efaa5224c73b50f6fa0bbf74c97537"), looks := true }, kinds := [], alts := [], laidByText := true, laidKinds := [.data, .data, .data, .handle], laidTests := true, laidLooks := .later }
def SignHoldsUptoCardSaid : Prop := Claim7.holds Tryd.pinned (.plain (OpenSpec.upto signHoldsSpec)) signHoldsUptoCard

/-- THE SECOND FORM's CARD OF 'stairlaw2.BootMeasures'. -/
def bootMeasuresUptoCard : Claim7 := { stood := { row := bootMeasuresUptoRow, standIns := [], harness := (true, "d96ee58e06c39b3f6f069eded1910d0df8efaa5224c73b50f6fa0bbf74c97537"), looks := true }, kinds := [], alts := [], laidByText := true, laidKinds := [.data, .data, .data], laidTests := true, laidLooks := .later }
def BootMeasuresUptoCardSaid : Prop := Claim7.holds Tryd.pinned (.plain (OpenSpec.upto bootMeasuresSpec)) bootMeasuresUptoCard

/-- THE SECOND FORM's CARD OF 'stairlaw2.BootTells'. -/
def bootTellsUptoCard : Claim7 := { stood := { row := bootTellsUptoRow, standIns := [], harness := (true, "d96ee58e06c39b3f6f069eded1910d0df8efaa5224c73b50f6fa0bbf74c97537"), looks := true }, kinds := [], alts := [], laidByText := true, laidKinds := [.data, .data, .data, .handle], laidTests := true, laidLooks := .later }
def BootTellsUptoCardSaid : Prop := Claim7.holds Tryd.pinned (.plain (OpenSpec.upto bootTellsSpec)) bootTellsUptoCard
end Rows
end Go.Proofs.YtnocigkfhdnhfaaDoor
