/- event.Replay. -/
import Derived.Test.YtkipjloapdolbaaGreatDoorRows
import Derived.Test.YtkipjloapdolbaaGreatDoorNum
import Derived.Test.YtkipjloapdolbaaGreatDoorBase
import Derived.Test.YtkipjloapdolbaaGreatDoorEvent
import Derived.WalkKit
import Derived.Lib.Hide
namespace Go.Proofs.YtkipjloapdolbaaGreatDoor
open Go.RowKit

def ReplayPost (es : List (Int × Int)) (w : World) (e : Ending) (w' : World) : Prop :=
  ∃ y0 y1 y2 y3 y4 y5 y6 y7 : Int, [y0, y1, y2, y3, y4, y5, y6, y7] = repB es ∧ e = .returned (.tuple #[.agg #[.int .i64 y0, .int .i64 y1, .int .i64 y2, .int .i64 y3, .int .i64 y4, .int .i64 y5, .int .i64 y6, .int .i64 y7], errV (evE es)]) ∧ Below w.heap.size w w'

theorem evE_ok {es : List (Int × Int)} (h : evE es = 0) : es.length ≤ 30 ∧ es.all okEv = true := by
  unfold evE at h
  by_cases h1 : 30 < es.length
  · rw [if_pos h1] at h; cases h
  · rw [if_neg h1] at h
    cases h2 : es.all okEv
    · rw [h2] at h; cases h
    · exact ⟨by omega, rfl⟩


end Go.Proofs.YtkipjloapdolbaaGreatDoor
