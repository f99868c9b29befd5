/- The row's last step for a law that reads a text in words: five tables and two errors of strconv's are listed. -/
import Derived.Test.YtalgnjdnanlidaaDoorRows
import Derived.Test.YtalgnjdnanlidaaDoorLiftS
import Derived.Test.YtalgnjdnanlidaaDoorParse
namespace Go.Proofs.YtalgnjdnanlidaaDoor
open Go.ChangeShapes Go.WideShapes Go.ChangeAt Go.RowKit

def LaidI : List (String × DataW Unit) := [("math/bits.deBruijn32tab", Rows.laid_math_bits_deBruijn32tab), ("math/bits.deBruijn64tab", Rows.laid_math_bits_deBruijn64tab), ("internal/strconv.uint64pow10", Rows.laid_internal_strconv_uint64pow10), ("unicode/utf8.acceptRanges", Rows.laid_unicode_utf8_acceptRanges), ("strconv.ErrRange", Rows.laid_strconv_ErrRange), ("strconv.ErrSyntax", Rows.laid_strconv_ErrSyntax), ("unicode/utf8.first", Rows.laid_unicode_utf8_first)]
theorem tabI_of_laid {W : World} (h : laidMetH Tryd.prog LaidI W) : TabT W := tab_of_met rfl h
def flatV : DataW Unit → Array Value
  | .agg l => (l.flatMap fun d => match d with
    | .agg m => m.map litV
    | x => [litV x]).toArray
  | _ => #[]
/-- A world that meets the condition. -/
noncomputable def laidWorldI (os : Os) : World :=
  let w0 := laidWorldTS os
  { w0 with heap := putG (putG w0.heap 6 (flatV Rows.laid_unicode_utf8_acceptRanges)) 5 (flatV Rows.laid_unicode_utf8_first) }
set_option maxRecDepth 100000 in
theorem laidWorldI_met (os : Os) (args : Array Value) : laidMetH Tryd.prog LaidI ((laidWorldI os).forCall (fun _ _ => 0) ⟨#[], args, []⟩).memory :=
  laidMetH_of_parts (laidMet_of_run' 8 (by kernel_rfl) (by kernel_rfl)) (by kernel_rfl)

end Go.Proofs.YtalgnjdnanlidaaDoor
