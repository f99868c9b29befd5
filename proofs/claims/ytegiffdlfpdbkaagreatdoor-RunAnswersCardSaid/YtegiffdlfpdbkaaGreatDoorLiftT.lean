/- The row's last step for a law whose text prints a number: what the listed package variables hold is handed to the walk. -/
import Derived.Test.YtegiffdlfpdbkaaGreatDoorRows
import Derived.Test.YtegiffdlfpdbkaaGreatDoorTie
import Derived.Test.YtegiffdlfpdbkaaGreatDoorCards
import Derived.Test.YtegiffdlfpdbkaaGreatDoorLift
import Derived.Test.YtegiffdlfpdbkaaGreatDoorTold
import Derived.Test.YtegiffdlfpdbkaaGreatDoorLiftD
import Derived.WalkKit
import Derived.ProofKit
import Derived.OpenShut
import Derived.HandedShaped
import Derived.LaidLaws
import Derived.LaidHandle
import Derived.LaidSub
import Derived.SevenTiedAt
import Derived.Lib.LaidTab
import Derived.Lib.ItoaNum
import Derived.WalkSmall
namespace Go.Proofs.YtegiffdlfpdbkaaGreatDoor
open Go.ChangeShapes Go.WideShapes Go.ChangeAt Go.RowKit

def LaidT : List (String × DataW Unit) := [("math/bits.deBruijn32tab", Rows.laid_math_bits_deBruijn32tab), ("math/bits.deBruijn64tab", Rows.laid_math_bits_deBruijn64tab), ("internal/strconv.uint64pow10", Rows.laid_internal_strconv_uint64pow10)]
def LaidTD : List (String × DataW Unit) := [("math/bits.deBruijn32tab", Rows.laid_math_bits_deBruijn32tab), ("math/bits.deBruijn64tab", Rows.laid_math_bits_deBruijn64tab), ("internal/strconv.uint64pow10", Rows.laid_internal_strconv_uint64pow10), ("errors.errorType", Rows.laid_errors_errorType)]

/-- The table of the powers of ten. -/
def TabT (w : World) : Prop := Lib.TabIs Tryz.prog w "internal/strconv.uint64pow10" .u64 Lib.pow10Tab
def TabTD (w : World) : Prop := TabT w ∧ Door w
theorem TabT.below {w w' : World} (h : TabT w) (hb : Below w.heap.size w w') : TabT w' := by
  have hg : Tryz.prog.globalNamed "internal/strconv.uint64pow10" = some 7 := by kernel_rfl
  have hc := Lib.TabIs.cell h hg 0 (by decide)
  exact var?_below hb hg (World.block_lt_of_cell? w ⟨7, 0, none⟩ hc) h

theorem tab_of_met {W : World} {L : List (String × DataW Unit)} (hf : (L.filter fun x => x.1 == "internal/strconv.uint64pow10") = [("internal/strconv.uint64pow10", Lib.tabData .u64 Lib.pow10Tab)]) (h : laidMetH Tryz.prog L W) : TabT W := by
  have h1 := h.filter (fun x => x.1 == "internal/strconv.uint64pow10")
  rw [hf] at h1
  exact Lib.tabIs_of_head (g := 7) (t := 185) (e := 168) (n := 20) (by kernel_rfl) (by kernel_rfl) (by kernel_rfl) (by kernel_rfl) (by kernel_rfl) (by kernel_rfl) (show laidMet _ _ _ from h1)
theorem tabT_of_laid {W : World} (h : laidMetH Tryz.prog LaidT W) : TabT W := tab_of_met rfl h
theorem tabTD_of_laid {W : World} (h : laidMetH Tryz.prog LaidTD W) : TabTD W := by
  refine ⟨tab_of_met rfl h, door_of_laid ?_⟩
  exact h.filter (fun x => x.1 == "errors.errorType")

def litV : DataW Unit → Value
  | .lit (.int k z) => .int k z
  | _ => undef
def tabV : DataW Unit → Array Value
  | .agg l => (l.map litV).toArray
  | _ => #[]
def putG (h : Array Obj) (g : Nat) (cs : Array Value) : Array Obj := h.modify g fun
  | .cells _ t fr => .cells cs t fr
  | o => o
/-- A world that meets the condition: the settled one, the tables laid. -/
noncomputable def laidWorldT (os : Os) : World :=
  let w0 := World.holding Tryz.prog os ⟨#[], #[], []⟩
  { w0 with heap := putG (putG (putG w0.heap 8 (tabV Rows.laid_math_bits_deBruijn32tab)) 9 (tabV Rows.laid_math_bits_deBruijn64tab)) 7 (tabV Rows.laid_internal_strconv_uint64pow10) }
noncomputable def laidWorldTD (os : Os) : World :=
  let w0 := laidWorldT os
  { w0 with heap := w0.heap.modify 1 fun
      | .cells _ t frozen => .cells #[.iface 123 (.agg #[.pointer (some ⟨10, 50, none⟩)])] t frozen
      | o => o }
set_option maxRecDepth 100000 in
theorem laidWorldT_met (os : Os) (args : Array Value) : laidMetH Tryz.prog LaidT ((laidWorldT os).forCall (fun _ _ => 0) ⟨#[], args, []⟩).memory :=
  laidMetH_of_parts (laidMet_of_run' 8 (by kernel_rfl) (by kernel_rfl)) (by kernel_rfl)
set_option maxRecDepth 100000 in
theorem laidWorldTD_met (os : Os) (args : Array Value) : laidMetH Tryz.prog LaidTD ((laidWorldTD os).forCall (fun _ _ => 0) ⟨#[], args, []⟩).memory :=
  laidMetH_of_parts (laidMet_of_run' 8 (by kernel_rfl) (by kernel_rfl)) (by kernel_rfl)

end Go.Proofs.YtegiffdlfpdbkaaGreatDoor
