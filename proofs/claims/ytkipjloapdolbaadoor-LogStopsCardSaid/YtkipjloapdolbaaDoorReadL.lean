/- The cell of bytealg.MaxLen in a shaped world. -/
import Derived.Test.YtkipjloapdolbaaDoorRows
import Derived.Test.YtkipjloapdolbaaDoorBase
import Derived.Shelf.Vars
namespace Go.Proofs.YtkipjloapdolbaaDoor

theorem maxLen_cell {w : World} (h : w.ShapedOpen Tryd.prog) : ∃ m, w.cell? ⟨1, 0, none⟩ = some (.int .i64 m) :=
  Go.Proofs.cell_of_shapedOpen_int (zero := #[.int .i64 0]) (t := 3) h (of_decide_eq_true (by kernel_rfl)) (by kernel_rfl) rfl (by kernel_rfl) (by kernel_rfl) Tryd.underlying3

end Go.Proofs.YtkipjloapdolbaaDoor
