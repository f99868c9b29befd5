/- The row's last step for a law whose text reads a number: three tables and two errors of strconv's are listed. -/
import Derived.Test.YtalgnjdnanlidaaDoorRows
import Derived.Test.YtalgnjdnanlidaaDoorLiftT
import Derived.WalkKit
import Derived.ProofKit
import Derived.OpenShut
import Derived.HandedShaped
import Derived.LaidLaws
import Derived.LaidHandle
import Derived.LaidSub
import Derived.Lib.LaidTab
namespace Go.Proofs.YtalgnjdnanlidaaDoor
open Go.ChangeShapes Go.WideShapes Go.ChangeAt Go.RowKit

def LaidTS : List (String × DataW Unit) := [("math/bits.deBruijn32tab", Rows.laid_math_bits_deBruijn32tab), ("math/bits.deBruijn64tab", Rows.laid_math_bits_deBruijn64tab), ("internal/strconv.uint64pow10", Rows.laid_internal_strconv_uint64pow10), ("strconv.ErrRange", Rows.laid_strconv_ErrRange), ("strconv.ErrSyntax", Rows.laid_strconv_ErrSyntax)]
theorem tabTS_of_laid {W : World} (h : laidMetH Tryd.prog LaidTS W) : TabT W := tab_of_met rfl h

abbrev rangeB : ByteArray := { data := #[118, 97, 108, 117, 101, 32, 111, 117, 116, 32, 111, 102, 32, 114, 97, 110, 103, 101] }
abbrev syntaxB : ByteArray := { data := #[105, 110, 118, 97, 108, 105, 100, 32, 115, 121, 110, 116, 97, 120] }
/-- So many blocks has the settled world. -/
noncomputable def lowS_ : Nat := (World.holding Tryd.prog default ⟨#[], #[], []⟩).heap.size
/-- A world that meets the condition: the settled one, two errors more, the tables laid. -/
noncomputable def laidWorldTS (os : Os) : World :=
  let w0 := World.holding Tryd.prog os ⟨#[.cells #[.string rangeB] 151, .cells #[.string syntaxB] 151], #[], []⟩
  { w0 with heap := putG (putG (putG (putG (putG w0.heap 7 (tabV Rows.laid_math_bits_deBruijn32tab)) 8 (tabV Rows.laid_math_bits_deBruijn64tab)) 4 (tabV Rows.laid_internal_strconv_uint64pow10)) 3 #[.iface 149 (.pointer (some ⟨lowS_, 0, none⟩))]) 2 #[.iface 149 (.pointer (some ⟨lowS_ + 1, 0, none⟩))] }
set_option maxRecDepth 100000 in
theorem laidWorldTS_met (os : Os) (args : Array Value) : laidMetH Tryd.prog LaidTS ((laidWorldTS os).forCall (fun _ _ => 0) ⟨#[], args, []⟩).memory :=
  laidMetH_of_parts (laidMet_of_run' 8 (by kernel_rfl) (by kernel_rfl)) (by kernel_rfl)

end Go.Proofs.YtalgnjdnanlidaaDoor
