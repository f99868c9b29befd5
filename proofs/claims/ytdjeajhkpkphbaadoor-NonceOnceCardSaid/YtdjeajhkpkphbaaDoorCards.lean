/-
  DERIVED. GIVEN WITH THE SEED: THE CARDS: each row of YtdjeajhkpkphbaaDoorRows.lean that lists a variable, with what it lists TIED to the program's text (the seventh form; the later family's looks); each row that meets fmt, with fmt's text TOLD by the authors' own Lean function (tested against real Go, not proved from fmt's source: count such statements apart). THE CARD IS WHAT COUNTS. Prove the row's statement (the work); the ties are given (YtdjeajhkpkphbaaDoorTie.lean); close each card by the builder's one call (the guide's Derived/Test/ToyasCard.lean, 'card_holds'). Laid BY PROGRAM, IN A SANDBOX (cutbox-door.mjs). By AI agents, Wed Nov 11 2026. No macro, syntax, notation, axiom, sorry.
-/
import Derived.Test.YtdjeajhkpkphbaaDoorRows
import GoSem.ClaimSeven
namespace Go.Proofs.YtdjeajhkpkphbaaDoor
namespace Rows

/-- THE TIED CARD OF 'stairlaw1.BoxOpens'. -/
def boxOpensCard : Claim7 := { stood := { row := boxOpensRow, standIns := [], harness := (true, "5999f4832b0ceb83dec897263d1509e73b88b1235882468ac00a8948ca3b0e6b"), looks := true }, kinds := [], alts := [], laidByText := true, laidKinds := [.handle], laidTests := true, laidLooks := .later }
def BoxOpensCardSaid : Prop := Claim7.holds Tryd.pinned (.plain (OpenSpec.ofChange boxOpensSpec)) boxOpensCard

/-- THE TIED CARD OF 'stairlaw1.QuoteTells'. -/
def quoteTellsCard : Claim7 := { stood := { row := quoteTellsRow, standIns := [], harness := (true, "5999f4832b0ceb83dec897263d1509e73b88b1235882468ac00a8948ca3b0e6b"), looks := true }, kinds := [], alts := [], laidByText := true, laidKinds := [.handle], laidTests := true, laidLooks := .later }
def QuoteTellsCardSaid : Prop := Claim7.holds Tryd.pinned (.plain (OpenSpec.ofChange quoteTellsSpec)) quoteTellsCard

/-- THE TIED CARD OF 'stairlaw2.JudgeTells'. -/
def judgeTellsCard : Claim7 := { stood := { row := judgeTellsRow, standIns := [], harness := (true, "5999f4832b0ceb83dec897263d1509e73b88b1235882468ac00a8948ca3b0e6b"), looks := true }, kinds := [], alts := [], laidByText := true, laidKinds := [.handle], laidTests := true, laidLooks := .later }
def JudgeTellsCardSaid : Prop := Claim7.holds Tryd.pinned (.plain (OpenSpec.ofChange judgeTellsSpec)) judgeTellsCard

/-- THE TIED CARD OF 'stairlaw1.QuoteFresh'. -/
def quoteFreshCard : Claim7 := { stood := { row := quoteFreshRow, standIns := [], harness := (true, "5999f4832b0ceb83dec897263d1509e73b88b1235882468ac00a8948ca3b0e6b"), looks := true }, kinds := [], alts := [], laidByText := true, laidKinds := [.handle], laidTests := true, laidLooks := .later }
def QuoteFreshCardSaid : Prop := Claim7.holds Tryd.pinned (.plain (OpenSpec.ofChange quoteFreshSpec)) quoteFreshCard

/-- THE TIED CARD OF 'stairlaw4.NonceFull'. -/
def nonceFullCard : Claim7 := { stood := { row := nonceFullRow, standIns := [], harness := (true, "5999f4832b0ceb83dec897263d1509e73b88b1235882468ac00a8948ca3b0e6b"), looks := true }, kinds := [], alts := [], laidByText := true, laidKinds := [.handle], laidTests := true, laidLooks := .later }
def NonceFullCardSaid : Prop := Claim7.holds Tryd.pinned (.plain (OpenSpec.ofChange nonceFullSpec)) nonceFullCard

/-- THE TIED CARD OF 'stairlaw1.NonceOnce'. -/
def nonceOnceCard : Claim7 := { stood := { row := nonceOnceRow, standIns := [], harness := (true, "5999f4832b0ceb83dec897263d1509e73b88b1235882468ac00a8948ca3b0e6b"), looks := true }, kinds := [], alts := [], laidByText := true, laidKinds := [.handle], laidTests := true, laidLooks := .later }
def NonceOnceCardSaid : Prop := Claim7.holds Tryd.pinned (.plain (OpenSpec.ofChange nonceOnceSpec)) nonceOnceCard

/-- THE TIED CARD OF 'stairlaw1.NoncePlays'. -/
def noncePlaysCard : Claim7 := { stood := { row := noncePlaysRow, standIns := [], harness := (true, "5999f4832b0ceb83dec897263d1509e73b88b1235882468ac00a8948ca3b0e6b"), looks := true }, kinds := [], alts := [], laidByText := true, laidKinds := [.handle], laidTests := true, laidLooks := .later }
def NoncePlaysCardSaid : Prop := Claim7.holds Tryd.pinned (.plain (OpenSpec.ofChange noncePlaysSpec)) noncePlaysCard

/-- THE TIED CARD OF 'stairlaw4.KeeperNone'. -/
def keeperNoneCard : Claim7 := { stood := { row := keeperNoneRow, standIns := [], harness := (true, "5999f4832b0ceb83dec897263d1509e73b88b1235882468ac00a8948ca3b0e6b"), looks := true }, kinds := [], alts := [], laidByText := true, laidKinds := [.handle], laidTests := true, laidLooks := .later }
def KeeperNoneCardSaid : Prop := Claim7.holds Tryd.pinned (.plain (OpenSpec.ofChange keeperNoneSpec)) keeperNoneCard

/-- THE TIED CARD OF 'stairlaw2.KeeperPlays'. -/
def keeperPlaysCard : Claim7 := { stood := { row := keeperPlaysRow, standIns := [], harness := (true, "5999f4832b0ceb83dec897263d1509e73b88b1235882468ac00a8948ca3b0e6b"), looks := true }, kinds := [], alts := [], laidByText := true, laidKinds := [.handle], laidTests := true, laidLooks := .later }
def KeeperPlaysCardSaid : Prop := Claim7.holds Tryd.pinned (.plain (OpenSpec.ofChange keeperPlaysSpec)) keeperPlaysCard

/-- THE TIED CARD OF 'stairlaw2.KeeperOnce'. -/
def keeperOnceCard : Claim7 := { stood := { row := keeperOnceRow, standIns := [], harness := (true, "5999f4832b0ceb83dec897263d1509e73b88b1235882468ac00a8948ca3b0e6b"), looks := true }, kinds := [], alts := [], laidByText := true, laidKinds := [.handle], laidTests := true, laidLooks := .later }
def KeeperOnceCardSaid : Prop := Claim7.holds Tryd.pinned (.plain (OpenSpec.ofChange keeperOnceSpec)) keeperOnceCard

/-- THE SECOND FORM's CARD OF 'stairlaw1.BoxOpens'. -/
def boxOpensUptoCard : Claim7 := { stood := { row := boxOpensUptoRow, standIns := [], harness := (true, "5999f4832b0ceb83dec897263d1509e73b88b1235882468ac00a8948ca3b0e6b"), looks := true }, kinds := [], alts := [], laidByText := true, laidKinds := [.handle], laidTests := true, laidLooks := .later }
def BoxOpensUptoCardSaid : Prop := Claim7.holds Tryd.pinned (.plain (OpenSpec.upto boxOpensSpec)) boxOpensUptoCard

/-- THE SECOND FORM's CARD OF 'stairlaw1.QuoteTells'. -/
def quoteTellsUptoCard : Claim7 := { stood := { row := quoteTellsUptoRow, standIns := [], harness := (true, "5999f4832b0ceb83dec897263d1509e73b88b1235882468ac00a8948ca3b0e6b"), looks := true }, kinds := [], alts := [], laidByText := true, laidKinds := [.handle], laidTests := true, laidLooks := .later }
def QuoteTellsUptoCardSaid : Prop := Claim7.holds Tryd.pinned (.plain (OpenSpec.upto quoteTellsSpec)) quoteTellsUptoCard

/-- THE SECOND FORM's CARD OF 'stairlaw2.JudgeTells'. -/
def judgeTellsUptoCard : Claim7 := { stood := { row := judgeTellsUptoRow, standIns := [], harness := (true, "5999f4832b0ceb83dec897263d1509e73b88b1235882468ac00a8948ca3b0e6b"), looks := true }, kinds := [], alts := [], laidByText := true, laidKinds := [.handle], laidTests := true, laidLooks := .later }
def JudgeTellsUptoCardSaid : Prop := Claim7.holds Tryd.pinned (.plain (OpenSpec.upto judgeTellsSpec)) judgeTellsUptoCard

/-- THE SECOND FORM's CARD OF 'stairlaw1.QuoteFresh'. -/
def quoteFreshUptoCard : Claim7 := { stood := { row := quoteFreshUptoRow, standIns := [], harness := (true, "5999f4832b0ceb83dec897263d1509e73b88b1235882468ac00a8948ca3b0e6b"), looks := true }, kinds := [], alts := [], laidByText := true, laidKinds := [.handle], laidTests := true, laidLooks := .later }
def QuoteFreshUptoCardSaid : Prop := Claim7.holds Tryd.pinned (.plain (OpenSpec.upto quoteFreshSpec)) quoteFreshUptoCard

/-- THE SECOND FORM's CARD OF 'stairlaw4.NonceFull'. -/
def nonceFullUptoCard : Claim7 := { stood := { row := nonceFullUptoRow, standIns := [], harness := (true, "5999f4832b0ceb83dec897263d1509e73b88b1235882468ac00a8948ca3b0e6b"), looks := true }, kinds := [], alts := [], laidByText := true, laidKinds := [.handle], laidTests := true, laidLooks := .later }
def NonceFullUptoCardSaid : Prop := Claim7.holds Tryd.pinned (.plain (OpenSpec.upto nonceFullSpec)) nonceFullUptoCard

/-- THE SECOND FORM's CARD OF 'stairlaw1.NonceOnce'. -/
def nonceOnceUptoCard : Claim7 := { stood := { row := nonceOnceUptoRow, standIns := [], harness := (true, "5999f4832b0ceb83dec897263d1509e73b88b1235882468ac00a8948ca3b0e6b"), looks := true }, kinds := [], alts := [], laidByText := true, laidKinds := [.handle], laidTests := true, laidLooks := .later }
def NonceOnceUptoCardSaid : Prop := Claim7.holds Tryd.pinned (.plain (OpenSpec.upto nonceOnceSpec)) nonceOnceUptoCard

/-- THE SECOND FORM's CARD OF 'stairlaw1.NoncePlays'. -/
def noncePlaysUptoCard : Claim7 := { stood := { row := noncePlaysUptoRow, standIns := [], harness := (true, "5999f4832b0ceb83dec897263d1509e73b88b1235882468ac00a8948ca3b0e6b"), looks := true }, kinds := [], alts := [], laidByText := true, laidKinds := [.handle], laidTests := true, laidLooks := .later }
def NoncePlaysUptoCardSaid : Prop := Claim7.holds Tryd.pinned (.plain (OpenSpec.upto noncePlaysSpec)) noncePlaysUptoCard

/-- THE SECOND FORM's CARD OF 'stairlaw4.KeeperNone'. -/
def keeperNoneUptoCard : Claim7 := { stood := { row := keeperNoneUptoRow, standIns := [], harness := (true, "5999f4832b0ceb83dec897263d1509e73b88b1235882468ac00a8948ca3b0e6b"), looks := true }, kinds := [], alts := [], laidByText := true, laidKinds := [.handle], laidTests := true, laidLooks := .later }
def KeeperNoneUptoCardSaid : Prop := Claim7.holds Tryd.pinned (.plain (OpenSpec.upto keeperNoneSpec)) keeperNoneUptoCard

/-- THE SECOND FORM's CARD OF 'stairlaw2.KeeperPlays'. -/
def keeperPlaysUptoCard : Claim7 := { stood := { row := keeperPlaysUptoRow, standIns := [], harness := (true, "5999f4832b0ceb83dec897263d1509e73b88b1235882468ac00a8948ca3b0e6b"), looks := true }, kinds := [], alts := [], laidByText := true, laidKinds := [.handle], laidTests := true, laidLooks := .later }
def KeeperPlaysUptoCardSaid : Prop := Claim7.holds Tryd.pinned (.plain (OpenSpec.upto keeperPlaysSpec)) keeperPlaysUptoCard

/-- THE SECOND FORM's CARD OF 'stairlaw2.KeeperOnce'. -/
def keeperOnceUptoCard : Claim7 := { stood := { row := keeperOnceUptoRow, standIns := [], harness := (true, "5999f4832b0ceb83dec897263d1509e73b88b1235882468ac00a8948ca3b0e6b"), looks := true }, kinds := [], alts := [], laidByText := true, laidKinds := [.handle], laidTests := true, laidLooks := .later }
def KeeperOnceUptoCardSaid : Prop := Claim7.holds Tryd.pinned (.plain (OpenSpec.upto keeperOnceSpec)) keeperOnceUptoCard
end Rows
end Go.Proofs.YtdjeajhkpkphbaaDoor
