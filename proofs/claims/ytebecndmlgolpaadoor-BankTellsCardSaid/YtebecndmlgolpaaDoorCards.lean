/-
  DERIVED. GIVEN WITH THE SEED: THE CARDS: each row of YtebecndmlgolpaaDoorRows.lean that lists a variable, with what it lists TIED to the program's text (the seventh form; the later family's looks); each row that meets fmt, with fmt's text TOLD by the authors' own Lean function (tested against real Go, not proved from fmt's source: count such statements apart). THE CARD IS WHAT COUNTS. Prove the row's statement (the work); the ties are given (YtebecndmlgolpaaDoorTie.lean); close each card by the builder's one call (the guide's Derived/Test/ToyasCard.lean, 'card_holds'). Laid BY PROGRAM, IN A SANDBOX (cutbox-door.mjs). By AI agents, Wed Nov 11 2026. No macro, syntax, notation, axiom, sorry.
-/
import Derived.Test.YtebecndmlgolpaaDoorRows
import GoSem.ClaimSeven
namespace Go.Proofs.YtebecndmlgolpaaDoor
namespace Rows

/-- THE TIED CARD OF 'stairlaw1.MeasureTells'. -/
def measureTellsCard : Claim7 := { stood := { row := measureTellsRow, standIns := [], harness := (true, "5ecb1570f3173b99ecbd5cc49789aa9714a5e85d3b7364606fefeed7078b49ee"), looks := true }, kinds := [], alts := [], laidByText := true, laidKinds := [.handle], laidTests := true, laidLooks := .later }
def MeasureTellsCardSaid : Prop := Claim7.holds Tryd.pinned (.plain (OpenSpec.ofChange measureTellsSpec)) measureTellsCard

/-- THE TIED CARD OF 'stairlaw1.KeyTells'. -/
def keyTellsCard : Claim7 := { stood := { row := keyTellsRow, standIns := [], harness := (true, "5ecb1570f3173b99ecbd5cc49789aa9714a5e85d3b7364606fefeed7078b49ee"), looks := true }, kinds := [], alts := [], laidByText := true, laidKinds := [.handle], laidTests := true, laidLooks := .later }
def KeyTellsCardSaid : Prop := Claim7.holds Tryd.pinned (.plain (OpenSpec.ofChange keyTellsSpec)) keyTellsCard

/-- THE TIED CARD OF 'stairlaw1.BoxTells'. -/
def boxTellsCard : Claim7 := { stood := { row := boxTellsRow, standIns := [], harness := (true, "5ecb1570f3173b99ecbd5cc49789aa9714a5e85d3b7364606fefeed7078b49ee"), looks := true }, kinds := [], alts := [], laidByText := true, laidKinds := [.handle], laidTests := true, laidLooks := .later }
def BoxTellsCardSaid : Prop := Claim7.holds Tryd.pinned (.plain (OpenSpec.ofChange boxTellsSpec)) boxTellsCard

/-- THE TIED CARD OF 'stairlaw1.RuleTells'. -/
def ruleTellsCard : Claim7 := { stood := { row := ruleTellsRow, standIns := [], harness := (true, "5ecb1570f3173b99ecbd5cc49789aa9714a5e85d3b7364606fefeed7078b49ee"), looks := true }, kinds := [], alts := [], laidByText := true, laidKinds := [.handle], laidTests := true, laidLooks := .later }
def RuleTellsCardSaid : Prop := Claim7.holds Tryd.pinned (.plain (OpenSpec.ofChange ruleTellsSpec)) ruleTellsCard

/-- THE TIED CARD OF 'stairlaw1.CertTells'. -/
def certTellsCard : Claim7 := { stood := { row := certTellsRow, standIns := [], harness := (true, "5ecb1570f3173b99ecbd5cc49789aa9714a5e85d3b7364606fefeed7078b49ee"), looks := true }, kinds := [], alts := [], laidByText := true, laidKinds := [.handle], laidTests := true, laidLooks := .later }
def CertTellsCardSaid : Prop := Claim7.holds Tryd.pinned (.plain (OpenSpec.ofChange certTellsSpec)) certTellsCard

/-- THE TIED CARD OF 'stairlaw1.BankTells'. -/
def bankTellsCard : Claim7 := { stood := { row := bankTellsRow, standIns := [], harness := (true, "5ecb1570f3173b99ecbd5cc49789aa9714a5e85d3b7364606fefeed7078b49ee"), looks := true }, kinds := [], alts := [], laidByText := true, laidKinds := [.handle], laidTests := true, laidLooks := .later }
def BankTellsCardSaid : Prop := Claim7.holds Tryd.pinned (.plain (OpenSpec.ofChange bankTellsSpec)) bankTellsCard

/-- THE TIED CARD OF 'stairlaw2.EventTells'. -/
def eventTellsCard : Claim7 := { stood := { row := eventTellsRow, standIns := [], harness := (true, "5ecb1570f3173b99ecbd5cc49789aa9714a5e85d3b7364606fefeed7078b49ee"), looks := true }, kinds := [], alts := [], laidByText := true, laidKinds := [.handle], laidTests := true, laidLooks := .later }
def EventTellsCardSaid : Prop := Claim7.holds Tryd.pinned (.plain (OpenSpec.ofChange eventTellsSpec)) eventTellsCard

/-- THE SECOND FORM's CARD OF 'stairlaw1.MeasureTells'. -/
def measureTellsUptoCard : Claim7 := { stood := { row := measureTellsUptoRow, standIns := [], harness := (true, "5ecb1570f3173b99ecbd5cc49789aa9714a5e85d3b7364606fefeed7078b49ee"), looks := true }, kinds := [], alts := [], laidByText := true, laidKinds := [.handle], laidTests := true, laidLooks := .later }
def MeasureTellsUptoCardSaid : Prop := Claim7.holds Tryd.pinned (.plain (OpenSpec.upto measureTellsSpec)) measureTellsUptoCard

/-- THE SECOND FORM's CARD OF 'stairlaw1.KeyTells'. -/
def keyTellsUptoCard : Claim7 := { stood := { row := keyTellsUptoRow, standIns := [], harness := (true, "5ecb1570f3173b99ecbd5cc49789aa9714a5e85d3b7364606fefeed7078b49ee"), looks := true }, kinds := [], alts := [], laidByText := true, laidKinds := [.handle], laidTests := true, laidLooks := .later }
def KeyTellsUptoCardSaid : Prop := Claim7.holds Tryd.pinned (.plain (OpenSpec.upto keyTellsSpec)) keyTellsUptoCard

/-- THE SECOND FORM's CARD OF 'stairlaw1.BoxTells'. -/
def boxTellsUptoCard : Claim7 := { stood := { row := boxTellsUptoRow, standIns := [], harness := (true, "5ecb1570f3173b99ecbd5cc49789aa9714a5e85d3b7364606fefeed7078b49ee"), looks := true }, kinds := [], alts := [], laidByText := true, laidKinds := [.handle], laidTests := true, laidLooks := .later }
def BoxTellsUptoCardSaid : Prop := Claim7.holds Tryd.pinned (.plain (OpenSpec.upto boxTellsSpec)) boxTellsUptoCard

/-- THE SECOND FORM's CARD OF 'stairlaw1.RuleTells'. -/
def ruleTellsUptoCard : Claim7 := { stood := { row := ruleTellsUptoRow, standIns := [], harness := (true, "5ecb1570f3173b99ecbd5cc49789aa9714a5e85d3b7364606fefeed7078b49ee"), looks := true }, kinds := [], alts := [], laidByText := true, laidKinds := [.handle], laidTests := true, laidLooks := .later }
def RuleTellsUptoCardSaid : Prop := Claim7.holds Tryd.pinned (.plain (OpenSpec.upto ruleTellsSpec)) ruleTellsUptoCard

/-- THE SECOND FORM's CARD OF 'stairlaw1.CertTells'. -/
def certTellsUptoCard : Claim7 := { stood := { row := certTellsUptoRow, standIns := [], harness := (true, "5ecb1570f3173b99ecbd5cc49789aa9714a5e85d3b7364606fefeed7078b49ee"), looks := true }, kinds := [], alts := [], laidByText := true, laidKinds := [.handle], laidTests := true, laidLooks := .later }
def CertTellsUptoCardSaid : Prop := Claim7.holds Tryd.pinned (.plain (OpenSpec.upto certTellsSpec)) certTellsUptoCard

/-- THE SECOND FORM's CARD OF 'stairlaw1.BankTells'. -/
def bankTellsUptoCard : Claim7 := { stood := { row := bankTellsUptoRow, standIns := [], harness := (true, "5ecb1570f3173b99ecbd5cc49789aa9714a5e85d3b7364606fefeed7078b49ee"), looks := true }, kinds := [], alts := [], laidByText := true, laidKinds := [.handle], laidTests := true, laidLooks := .later }
def BankTellsUptoCardSaid : Prop := Claim7.holds Tryd.pinned (.plain (OpenSpec.upto bankTellsSpec)) bankTellsUptoCard

/-- THE SECOND FORM's CARD OF 'stairlaw2.EventTells'. -/
def eventTellsUptoCard : Claim7 := { stood := { row := eventTellsUptoRow, standIns := [], harness := (true, "5ecb1570f3173b99ecbd5cc49789aa9714a5e85d3b7364606fefeed7078b49ee"), looks := true }, kinds := [], alts := [], laidByText := true, laidKinds := [.handle], laidTests := true, laidLooks := .later }
def EventTellsUptoCardSaid : Prop := Claim7.holds Tryd.pinned (.plain (OpenSpec.upto eventTellsSpec)) eventTellsUptoCard
end Rows
end Go.Proofs.YtebecndmlgolpaaDoor
