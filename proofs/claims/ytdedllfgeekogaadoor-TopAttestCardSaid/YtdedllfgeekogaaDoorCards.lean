/-
  DERIVED. GIVEN WITH THE SEED: THE CARDS: each row of YtdedllfgeekogaaDoorRows.lean that lists a variable, with what it lists TIED to the program's text (the seventh form; the later family's looks); each row that meets fmt, with fmt's text TOLD by the authors' own Lean function (tested against real Go, not proved from fmt's source: count such statements apart). THE CARD IS WHAT COUNTS. Prove the row's statement (the work); the ties are given (YtdedllfgeekogaaDoorTie.lean); close each card by the builder's one call (the guide's Derived/Test/ToyasCard.lean, 'card_holds'). Laid BY PROGRAM, IN A SANDBOX (cutbox-door.mjs). By AI agents, Wed Nov 11 2026. No macro, syntax, notation, axiom, sorry.
-/
import Derived.Test.YtdedllfgeekogaaDoorRows
import GoSem.ClaimSeven
namespace Go.Proofs.YtdedllfgeekogaaDoor
namespace Rows

/-- THE TIED CARD OF 'stairtop.TopAttest'. -/
def topAttestCard : Claim7 := { stood := { row := topAttestRow, standIns := [], harness := (true, "fc8d09e6c9d67b76b99a7a99801028d9a476a79ffbcd2336a9799e3ebb9ace02"), looks := true }, kinds := [], alts := [], laidByText := true, laidKinds := [.data, .data, .data], laidTests := true, laidLooks := .later }
def TopAttestCardSaid : Prop := Claim7.holds Tryd.pinned (.plain (OpenSpec.ofChange topAttestSpec)) topAttestCard

/-- THE TIED CARD OF 'stairtop.TopChain'. -/
def topChainCard : Claim7 := { stood := { row := topChainRow, standIns := [], harness := (true, "fc8d09e6c9d67b76b99a7a99801028d9a476a79ffbcd2336a9799e3ebb9ace02"), looks := true }, kinds := [], alts := [], laidByText := true, laidKinds := [.data, .data, .data, .handle], laidTests := true, laidLooks := .later }
def TopChainCardSaid : Prop := Claim7.holds Tryd.pinned (.plain (OpenSpec.ofChange topChainSpec)) topChainCard

/-- THE TIED CARD OF 'stairlaw2.KeeperPlays'. -/
def keeperPlaysCard : Claim7 := { stood := { row := keeperPlaysRow, standIns := [], harness := (true, "fc8d09e6c9d67b76b99a7a99801028d9a476a79ffbcd2336a9799e3ebb9ace02"), looks := true }, kinds := [], alts := [], laidByText := true, laidKinds := [.handle], laidTests := true, laidLooks := .later }
def KeeperPlaysCardSaid : Prop := Claim7.holds Tryd.pinned (.plain (OpenSpec.ofChange keeperPlaysSpec)) keeperPlaysCard

/-- THE TIED CARD OF 'stairlaw2.KeeperOnce'. -/
def keeperOnceCard : Claim7 := { stood := { row := keeperOnceRow, standIns := [], harness := (true, "fc8d09e6c9d67b76b99a7a99801028d9a476a79ffbcd2336a9799e3ebb9ace02"), looks := true }, kinds := [], alts := [], laidByText := true, laidKinds := [.handle], laidTests := true, laidLooks := .later }
def KeeperOnceCardSaid : Prop := Claim7.holds Tryd.pinned (.plain (OpenSpec.ofChange keeperOnceSpec)) keeperOnceCard

/-- THE SECOND FORM's CARD OF 'stairtop.TopAttest'. -/
def topAttestUptoCard : Claim7 := { stood := { row := topAttestUptoRow, standIns := [], harness := (true, "fc8d09e6c9d67b76b99a7a99801028d9a476a79ffbcd2336a9799e3ebb9ace02"), looks := true }, kinds := [], alts := [], laidByText := true, laidKinds := [.data, .data, .data], laidTests := true, laidLooks := .later }
def TopAttestUptoCardSaid : Prop := Claim7.holds Tryd.pinned (.plain (OpenSpec.upto topAttestSpec)) topAttestUptoCard

/-- THE SECOND FORM's CARD OF 'stairtop.TopChain'. -/
def topChainUptoCard : Claim7 := { stood := { row := topChainUptoRow, standIns := [], harness := (true, "fc8d09e6c9d67b76b99a7a99801028d9a476a79ffbcd2336a9799e3ebb9ace02"), looks := true }, kinds := [], alts := [], laidByText := true, laidKinds := [.data, .data, .data, .handle], laidTests := true, laidLooks := .later }
def TopChainUptoCardSaid : Prop := Claim7.holds Tryd.pinned (.plain (OpenSpec.upto topChainSpec)) topChainUptoCard

/-- THE SECOND FORM's CARD OF 'stairlaw2.KeeperPlays'. -/
def keeperPlaysUptoCard : Claim7 := { stood := { row := keeperPlaysUptoRow, standIns := [], harness := (true, "fc8d09e6c9d67b76b99a7a99801028d9a476a79ffbcd2336a9799e3ebb9ace02"), looks := true }, kinds := [], alts := [], laidByText := true, laidKinds := [.handle], laidTests := true, laidLooks := .later }
def KeeperPlaysUptoCardSaid : Prop := Claim7.holds Tryd.pinned (.plain (OpenSpec.upto keeperPlaysSpec)) keeperPlaysUptoCard

/-- THE SECOND FORM's CARD OF 'stairlaw2.KeeperOnce'. -/
def keeperOnceUptoCard : Claim7 := { stood := { row := keeperOnceUptoRow, standIns := [], harness := (true, "fc8d09e6c9d67b76b99a7a99801028d9a476a79ffbcd2336a9799e3ebb9ace02"), looks := true }, kinds := [], alts := [], laidByText := true, laidKinds := [.handle], laidTests := true, laidLooks := .later }
def KeeperOnceUptoCardSaid : Prop := Claim7.holds Tryd.pinned (.plain (OpenSpec.upto keeperOnceSpec)) keeperOnceUptoCard
end Rows
end Go.Proofs.YtdedllfgeekogaaDoor
