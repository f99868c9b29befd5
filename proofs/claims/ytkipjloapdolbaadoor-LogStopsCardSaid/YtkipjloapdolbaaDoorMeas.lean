/- The walks of package measure. -/
import Derived.Test.YtkipjloapdolbaaDoorRows
import Derived.Test.YtkipjloapdolbaaDoorNum
import Derived.Test.YtkipjloapdolbaaDoorBase
import Derived.WalkKit
import Derived.WalkSpells
import Derived.WalkLawsBesides
import Derived.Lib.Hide
import Derived.Laws.IdiomStrings
namespace Go.Proofs.YtkipjloapdolbaaDoor
open Go.RowKit


theorem i64_lit {a b : Int} (h : a = b) : Ending.returned (.int .i64 a) = .returned (.int .i64 b) := by rw [h]






/-- '[]byte(s)': a new block that reads as the bytes of s; the world behind it is a letter. -/
theorem conv_bytes (s : ByteArray) (w : World) : ∃ cap w1, (convert 9 79 (.string s)).run Tryd.prog w = .ok (.slice (some ⟨w.heap.size, 0, none⟩) s.size cap) w1 ∧ Below w.heap.size w w1 ∧
    w.heap.size < w1.heap.size ∧ ∀ j, j < s.size → w1.cell? ⟨w.heap.size, j, none⟩ = some (.int .u8 ((s.data.toList.getD j 0).toNat : Int)) := by
  refine ⟨_, _, run_bytes_of_string (P := Tryd.prog) w 9 79 5 s Tryd.underlying9 Tryd.underlying79 Tryd.underlying5, ?_, ?_, ?_⟩
  · exact ((Below.refl _ _).drew).alloc (Nat.le_refl _) _
  · show _ < (w.drew.heap.push _).size
    rw [Array.size_push]; exact Nat.lt_succ_self _
  · intro j hj
    show (w.alloc _).cell? _ = _
    rw [World.cell?_alloc_mark, bytesRow_at s _ j hj]
    have hj' : j < s.data.toList.length := by simpa using hj
    rw [List.getD_eq_getElem?_getD, List.getElem?_eq_getElem hj']
    simp



end Go.Proofs.YtkipjloapdolbaaDoor
