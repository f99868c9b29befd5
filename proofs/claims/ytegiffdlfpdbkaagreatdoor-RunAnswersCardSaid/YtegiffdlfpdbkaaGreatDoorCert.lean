/- The walks of package cert. cert.Make. -/
import Derived.Test.YtegiffdlfpdbkaaGreatDoorRows
import Derived.Test.YtegiffdlfpdbkaaGreatDoorNum
import Derived.Test.YtegiffdlfpdbkaaGreatDoorBase
import Derived.Test.YtegiffdlfpdbkaaGreatDoorMeas
import Derived.Test.YtegiffdlfpdbkaaGreatDoorKey
import Derived.WalkKit
import Derived.Lib.Hide
namespace Go.Proofs.YtegiffdlfpdbkaaGreatDoor
open Go.RowKit

def CertsAt (w : World) (A : Option Addr) (cs : List (Int × Int × Int)) : Prop :=
  ∀ i, i < cs.length → ∃ b off, A = some ⟨b, off, none⟩ ∧ b < w.heap.size ∧ w.cell? ⟨b, off + i * 3, none⟩ = some (.int .i64 (cs.getD i (0, 0, 0)).1) ∧
    w.cell? ⟨b, off + i * 3 + 1, none⟩ = some (.int .i64 (cs.getD i (0, 0, 0)).2.1) ∧ w.cell? ⟨b, off + i * 3 + 2, none⟩ = some (.int .i64 (cs.getD i (0, 0, 0)).2.2)
theorem CertsAt.below {w w' : World} {A : Option Addr} {cs : List (Int × Int × Int)} (h : CertsAt w A cs) (hb : Below w.heap.size w w') : CertsAt w' A cs := fun i hi => by
  obtain ⟨b, off, e, hlt, h1, h2, h3⟩ := h i hi
  exact ⟨b, off, e, Nat.lt_of_lt_of_le hlt hb.size, (hb.cell (p := ⟨b, off + i * 3, none⟩) hlt).trans h1, (hb.cell (p := ⟨b, off + i * 3 + 1, none⟩) hlt).trans h2, (hb.cell (p := ⟨b, off + i * 3 + 2, none⟩) hlt).trans h3⟩
theorem CertsAt.nil_ (w : World) (A : Option Addr) : CertsAt w A [] := fun i hi => absurd hi (by simp)


end Go.Proofs.YtegiffdlfpdbkaaGreatDoor

namespace Go.Proofs.YtegiffdlfpdbkaaGreatDoor
open Go.RowKit

def cmE (x k q : Int) : Int := if okIn q then sgE x k q else 1
def cmV (x k q : Int) : Int × Int × Int := if cmE x k q = 0 then (q, sgP x k q, sgA x k q) else (0, 0, 0)


end Go.Proofs.YtegiffdlfpdbkaaGreatDoor
