/- The row's last step for a law whose text reads a number, and that asks which error one is: three tables, errors.errorType and two errors of strconv's are listed. -/
import Derived.Test.YtegiffdlfpdbkaaGreatDoorRows
import Derived.Test.YtegiffdlfpdbkaaGreatDoorLiftT
import Derived.Test.YtegiffdlfpdbkaaGreatDoorLiftD
import Derived.WalkKit
import Derived.ProofKit
import Derived.OpenShut
import Derived.HandedShaped
import Derived.LaidLaws
import Derived.LaidHandle
import Derived.LaidSub
import Derived.Lib.LaidTab
namespace Go.Proofs.YtegiffdlfpdbkaaGreatDoor
open Go.ChangeShapes Go.WideShapes Go.ChangeAt Go.RowKit

def LaidTDS : List (String × DataW Unit) := [("math/bits.deBruijn32tab", Rows.laid_math_bits_deBruijn32tab), ("math/bits.deBruijn64tab", Rows.laid_math_bits_deBruijn64tab), ("internal/strconv.uint64pow10", Rows.laid_internal_strconv_uint64pow10), ("errors.errorType", Rows.laid_errors_errorType), ("strconv.ErrRange", Rows.laid_strconv_ErrRange), ("strconv.ErrSyntax", Rows.laid_strconv_ErrSyntax)]
theorem tabTDS_of_laid {W : World} (h : laidMetH Tryz.prog LaidTDS W) : TabTD W := by
  refine ⟨tab_of_met rfl h, door_of_laid ?_⟩
  exact h.filter (fun x => x.1 == "errors.errorType")

abbrev rangeB : ByteArray := { data := #[118, 97, 108, 117, 101, 32, 111, 117, 116, 32, 111, 102, 32, 114, 97, 110, 103, 101] }
abbrev syntaxB : ByteArray := { data := #[105, 110, 118, 97, 108, 105, 100, 32, 115, 121, 110, 116, 97, 120] }
/-- So many blocks has the settled world. -/
noncomputable def lowS_ : Nat := (World.holding Tryz.prog default ⟨#[], #[], []⟩).heap.size
/-- A world that meets the condition: the settled one, two errors more, the tables laid. -/
noncomputable def laidWorldTDS0 (os : Os) : World :=
  let w0 := World.holding Tryz.prog os ⟨#[.cells #[.string rangeB] 183, .cells #[.string syntaxB] 183], #[], []⟩
  { w0 with heap := putG (putG (putG (putG (putG w0.heap 8 (tabV Rows.laid_math_bits_deBruijn32tab)) 9 (tabV Rows.laid_math_bits_deBruijn64tab)) 7 (tabV Rows.laid_internal_strconv_uint64pow10)) 6 #[.iface 181 (.pointer (some ⟨lowS_, 0, none⟩))]) 5 #[.iface 181 (.pointer (some ⟨lowS_ + 1, 0, none⟩))] }
noncomputable def laidWorldTDS (os : Os) : World :=
  let w0 := laidWorldTDS0 os
  { w0 with heap := w0.heap.modify 1 fun
      | .cells _ t frozen => .cells #[.iface 123 (.agg #[.pointer (some ⟨10, 50, none⟩)])] t frozen
      | o => o }
set_option maxRecDepth 100000 in
theorem laidWorldTDS_met (os : Os) (args : Array Value) : laidMetH Tryz.prog LaidTDS ((laidWorldTDS os).forCall (fun _ _ => 0) ⟨#[], args, []⟩).memory :=
  laidMetH_of_parts (laidMet_of_run' 8 (by kernel_rfl) (by kernel_rfl)) (by kernel_rfl)

end Go.Proofs.YtegiffdlfpdbkaaGreatDoor
