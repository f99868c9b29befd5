/- The row's last step for a law that reads a text in words and asks which error one is: LiftI's list, and errors.errorType. -/
import Derived.Test.YtalgnjdnanlidaaDoorRows
import Derived.Test.YtalgnjdnanlidaaDoorLiftD
import Derived.Test.YtalgnjdnanlidaaDoorLiftI
import Derived.Test.YtalgnjdnanlidaaDoorLiftU
namespace Go.Proofs.YtalgnjdnanlidaaDoor
open Go.ChangeShapes Go.WideShapes Go.ChangeAt Go.RowKit

def LaidJ : List (String × DataW Unit) := Rows.imageTellsUptoRow.laid
def ReadTD (w : World) : Prop := ReadT w ∧ Door w
theorem readJ_of_laid {W : World} (h : laidMetH Tryd.prog LaidJ W) (hs : W.ShapedOpen Tryd.prog) : ReadTD W := by
  refine ⟨readT_of_met rfl rfl rfl h hs, door_of_laid ?_⟩
  exact h.filter (fun x => x.1 == "errors.errorType")
/-- A world that meets the condition. -/
noncomputable def laidWorldJ (os : Os) : World :=
  let w0 := laidWorldI os
  { w0 with heap := w0.heap.modify 0 fun
      | .cells _ t frozen => .cells #[.iface 128 (.agg #[.pointer (some ⟨9, 25, none⟩)])] t frozen
      | o => o }
set_option maxRecDepth 100000 in
theorem laidWorldJ_met (os : Os) (args : Array Value) : laidMetH Tryd.prog LaidJ ((laidWorldJ os).forCall (fun _ _ => 0) ⟨#[], args, []⟩).memory :=
  laidMetH_of_parts (laidMet_of_run' 8 (by kernel_rfl) (by kernel_rfl)) (by kernel_rfl)

end Go.Proofs.YtalgnjdnanlidaaDoor
