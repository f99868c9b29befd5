/- image: Line, Is, Measure. -/
import Derived.Test.YtegiffdlfpdbkaaGreatDoorRows
import Derived.Test.YtegiffdlfpdbkaaGreatDoorNum
import Derived.Test.YtegiffdlfpdbkaaGreatDoorBase
import Derived.Test.YtegiffdlfpdbkaaGreatDoorMeas
import Derived.Test.YtegiffdlfpdbkaaGreatDoorBank
import Derived.Test.YtegiffdlfpdbkaaGreatDoorImg
import Derived.Test.YtegiffdlfpdbkaaGreatDoorLiftT
import Derived.Test.YtegiffdlfpdbkaaGreatDoorShelf
import Derived.WalkKit
import Derived.WalkSpells
import Derived.WalkLawsBesides
import Derived.Lib.Hide
import Derived.Deep.RegionHeld3
namespace Go.Proofs.YtegiffdlfpdbkaaGreatDoor
open Go.RowKit
set_option maxRecDepth 100000

def itoaS (v : Int) : ByteArray := ⟨(Lib.itoa v).toArray⟩
def lineS (n : ByteArray) (v : Int) (c : ByteArray) : ByteArray := (((n ++ { data := #[32] }) ++ itoaS v) ++ { data := #[32] }) ++ c
def imgM (n : ByteArray) (v : Int) (c : ByteArray) : Int := textM (lineS n v c).data.toList
theorem imgM_ok (n : ByteArray) (v : Int) (c : ByteArray) : okM (imgM n v c) = true := textM_ok _
theorem below_grow (w : World) (k : Nat) (os : Array Obj) : Below w.heap.size w (Sort.grow (w.drewN k) os) :=
  ⟨rfl, rfl, rfl, by show _ ≤ (w.heap ++ os).size; rw [Array.size_append]; omega, fun j hj => by show (w.heap ++ os)[j]? = _; rw [Array.getElem?_append_left hj]⟩
theorem imgE_ok {n : ByteArray} {v : Int} {c : ByteArray} (h : imgE n v c = 0) : n.size ≠ 0 ∧ lowS n = true ∧ lowS c = true ∧ n.size ≤ 8 ∧ c.size ≤ 8 ∧ 1 ≤ v ∧ v ≤ 1000 := by
  unfold imgE at h
  split at h
  · cases h
  · rename_i h1
    split at h
    · cases h
    · rename_i h2
      split at h
      · cases h
      · rename_i h3
        refine ⟨fun e => h1 (Or.inl e), ?_, ?_, by omega, by omega, by omega, by omega⟩
        · cases e : lowS n
          · exact absurd (Or.inr (Or.inl e)) h1
          · rfl
        · cases e : lowS c
          · exact absurd (Or.inr (Or.inr e)) h1
          · rfl

theorem itoa_any (v : Int) (w : World) (h0 : 0 ≤ v) (h1 : v ≤ 1000) (ht : TabT w) :
    Calls Tryz.prog 76 #[.int .i64 v] w fun e w' => e = .returned (.string (itoaS v)) ∧ Below w.heap.size w w' := by
  refine (Tryz.strconv_Itoa v (by omega) (by omega) w ht).mono ?_
  rintro e w' ⟨rfl, k, os, rfl⟩
  exact ⟨rfl, below_grow w k os⟩

theorem itoa_len {v : Int} (h0 : 0 ≤ v) (h1 : v ≤ 1000) : (itoaS v).size ≤ 4 := by
  obtain ⟨n, rfl⟩ := Int.eq_ofNat_of_zero_le h0
  have e : itoaS (n : Int) = ⟨(Lib.decDigits n).toArray⟩ := by
    unfold itoaS Lib.itoa
    rw [if_neg (by omega)]; rfl
  rw [e]
  show (Lib.decDigits n).toArray.size ≤ 4
  rw [List.size_toArray]
  have hn : n ≤ 1000 := by omega
  clear e h0 h1
  unfold Lib.decDigits
  split
  · simp
  · rw [List.length_append]
    unfold Lib.decDigits
    split
    · simp
    · rw [List.length_append]
      unfold Lib.decDigits
      split
      · simp
      · rw [List.length_append]
        unfold Lib.decDigits
        rw [dif_pos (by omega)]; simp
theorem lineS_size (n : ByteArray) (v : Int) (c : ByteArray) : (lineS n v c).size = n.size + 1 + (itoaS v).size + 1 + c.size := by
  unfold lineS
  simp only [ByteArray.size_append]
  rfl



end Go.Proofs.YtegiffdlfpdbkaaGreatDoor
