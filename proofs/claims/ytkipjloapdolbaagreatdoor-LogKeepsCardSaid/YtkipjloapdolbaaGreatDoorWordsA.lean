/- A blank found in a text; texts that are alike byte by byte; bytes of a text made anew. -/
import Derived.Test.YtkipjloapdolbaaGreatDoorRows
import Derived.Test.YtkipjloapdolbaaGreatDoorBase
import Derived.Lib.Strings
import Derived.Lib.IndexMore
import Derived.Lib.CutLaws
import Derived.Lib.AtoiAll
import Derived.Lib.ConvBytes
import Derived.Lib.UnsafeStr
namespace Go.Proofs.YtkipjloapdolbaaGreatDoor
open Go.RowKit
set_option maxRecDepth 100000

theorem index_sp : ∀ (a r : List UInt8), (∀ x ∈ a, x ≠ 32) → Lib.index (a ++ 32 :: r) [32] = (a.length : Int)
  | [], r, _ => by rw [List.nil_append, Lib.index]; simp [List.isPrefixOf]
  | x :: a, r, h => by
    have hx : x ≠ 32 := h x (by simp)
    have ih := index_sp a r (fun y hy => h y (by simp [hy]))
    have hp : ([32] : List UInt8).isPrefixOf (x :: (a ++ 32 :: r)) = false := by simp [List.isPrefixOf, Ne.symm hx]
    rw [List.cons_append, Lib.index, hp, ih, if_neg (by decide), if_neg (fun e => by have := beq_iff_eq.1 e; omega), List.length_cons]
    omega
theorem index_no : ∀ (a : List UInt8), (∀ x ∈ a, x ≠ 32) → Lib.index a [32] = -1
  | [], _ => by rw [Lib.index]; rfl
  | x :: a, h => by
    have hx : x ≠ 32 := h x (by simp)
    have ih := index_no a (fun y hy => h y (by simp [hy]))
    have hp : ([32] : List UInt8).isPrefixOf (x :: a) = false := by simp [List.isPrefixOf, Ne.symm hx]
    rw [Lib.index, hp, ih, if_neg (by decide)]; rfl
theorem bytes_ext {a b : ByteArray} (h : a.data.toList = b.data.toList) : a = b := by
  rcases a with ⟨⟨a⟩⟩
  rcases b with ⟨⟨b⟩⟩
  have h' : a = b := h
  rw [h']
theorem bytes_below (w : World) (ty : TypeId) (t : ByteArray) : Below w.heap.size w (Lib.bytesWorld w ty t) := by
  unfold Lib.bytesWorld
  exact Lib.below_freeze (grow_alloc (grow_drew (grow_refl _)) _) (Nat.le_refl _) 1

end Go.Proofs.YtkipjloapdolbaaGreatDoor
