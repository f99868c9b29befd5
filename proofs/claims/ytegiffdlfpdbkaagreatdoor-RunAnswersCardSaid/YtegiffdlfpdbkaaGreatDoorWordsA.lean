/- A blank found in a text; texts that are alike byte by byte; bytes of a text made anew. -/
import Derived.Test.YtegiffdlfpdbkaaGreatDoorRows
import Derived.Test.YtegiffdlfpdbkaaGreatDoorBase
import Derived.Lib.Strings
import Derived.Lib.IndexMore
import Derived.Lib.CutLaws
import Derived.Lib.SplitLaws
import Derived.Lib.AtoiAll
import Derived.Lib.ConvBytes
import Derived.Lib.UnsafeStr
namespace Go.Proofs.YtegiffdlfpdbkaaGreatDoor
open Go.RowKit
set_option maxRecDepth 100000

theorem index_sp : ∀ (a r : List UInt8), (∀ x ∈ a, x ≠ 32) → Lib.index (a ++ 32 :: r) [32] = (a.length : Int)
  | [], r, _ => by rw [List.nil_append, Lib.index]; simp [List.isPrefixOf]
  | x :: a, r, h => by
    have hx : x ≠ 32 := h x (by simp)
    have ih := index_sp a r (fun y hy => h y (by simp [hy]))
    have hp : ([32] : List UInt8).isPrefixOf (x :: (a ++ 32 :: r)) = false := by simp [List.isPrefixOf, Ne.symm hx]
    rw [List.cons_append, Lib.index, hp, ih, if_neg (by decide), if_neg (fun e => by have := beq_iff_eq.1 e; omega), List.length_cons]
    omega
theorem index_no : ∀ (a : List UInt8), (∀ x ∈ a, x ≠ 32) → Lib.index a [32] = -1
  | [], _ => by rw [Lib.index]; rfl
  | x :: a, h => by
    have hx : x ≠ 32 := h x (by simp)
    have ih := index_no a (fun y hy => h y (by simp [hy]))
    have hp : ([32] : List UInt8).isPrefixOf (x :: a) = false := by simp [List.isPrefixOf, Ne.symm hx]
    rw [Lib.index, hp, ih, if_neg (by decide)]; rfl
theorem bytes_ext {a b : ByteArray} (h : a.data.toList = b.data.toList) : a = b := by
  rcases a with ⟨⟨a⟩⟩
  rcases b with ⟨⟨b⟩⟩
  have h' : a = b := h
  rw [h']
theorem bytes_below (w : World) (ty : TypeId) (t : ByteArray) : Below w.heap.size w (Lib.bytesWorld w ty t) := by
  unfold Lib.bytesWorld
  exact Lib.below_freeze (grow_alloc (grow_drew (grow_refl _)) _) (Nat.le_refl _) 1
theorem splitK_step (k : Nat) (a r : List UInt8) (ha : ∀ x ∈ a, x ≠ 32) : Lib.splitK [32] 0 (k + 1) (a ++ 32 :: r) = a :: Lib.splitK [32] 0 k r := by
  have hi := index_sp a r ha
  rw [Lib.splitK, hi, if_neg (fun e => by have := beq_iff_eq.1 e; omega)]
  have e1 : ((a.length : Int).toNat + 0) = a.length := by omega
  have e2 : ((a.length : Int).toNat + [(32 : UInt8)].length) = a.length + 1 := by simp
  rw [e1, e2, List.take_left]
  congr 2
  rw [show a.length + 1 = a.length + 1 from rfl, List.drop_append]
  simp
theorem bytes_loop (s : ByteArray) : ∀ (m i : Nat) (r : List UInt8), s.size - i = m → ByteArray.toList.loop s i r = r.reverse ++ s.data.toList.drop i := by
  intro m
  induction m with
  | zero =>
    intro i r h
    unfold ByteArray.toList.loop
    have hs : s.data.toList.length = s.size := by rw [Array.length_toList]; rfl
    rw [if_neg (by omega), List.drop_eq_nil_of_le (by omega), List.append_nil]
  | succ m ih =>
    intro i r h
    have hs : s.data.toList.length = s.size := by rw [Array.length_toList]; rfl
    unfold ByteArray.toList.loop
    rw [if_pos (by omega), ih (i + 1) (s.get! i :: r) (by omega), List.reverse_cons, List.append_assoc]
    congr 1
    have hi : i < s.data.toList.length := by omega
    rw [List.drop_eq_getElem_cons hi]
    have hg : s.get! i = s.data.toList[i] := by
      show s.data[i]! = _
      rw [getElem!_pos s.data i (by simpa using hi)]
      simp
    rw [hg]; rfl
theorem bytes_list (s : ByteArray) : s.toList = s.data.toList := by
  unfold ByteArray.toList
  rw [bytes_loop s s.size 0 [] (by omega)]
  rfl

end Go.Proofs.YtegiffdlfpdbkaaGreatDoor
