/- Plain: two banks, held side by side register by register, where a mask asks. -/
import Derived.Test.YtdedllfgeekogaaGreatDoorNum
namespace Go.Proofs.YtdedllfgeekogaaGreatDoor

def alikeK (a b : List Int) (m : Int) (k : Nat) : Bool := (List.range k).all fun j => !bitM m j || (a.getD j 0 == b.getD j 0)
theorem alikeK_succ (a b : List Int) (m : Int) (k : Nat) : alikeK a b m (k + 1) = (alikeK a b m k && (!bitM m k || (a.getD k 0 == b.getD k 0))) := by
  unfold alikeK
  rw [List.range_succ, List.all_append, List.all_cons, List.all_nil, Bool.and_true]
theorem alike_told (a b : List Int) (m : Int) : alikeK a b m 8 = (toldM a m == toldM b m) := by
  rw [Bool.eq_iff_iff]
  unfold alikeK toldM toldK
  rw [List.all_eq_true, beq_iff_eq, List.map_inj_left]
  constructor
  · intro h j hj
    obtain ⟨h1, h2⟩ := List.mem_filter.1 hj
    have := h j h1
    rw [h2] at this
    simpa using this
  · intro h j hj
    cases hb : bitM m j
    · rfl
    · have := h j (List.mem_filter.2 ⟨hj, hb⟩)
      simpa using this
theorem same_alike (a b : List Int) (m : Int) : sameB a b m = (decide (sameE a b m = 0) && alikeK a b m 8) := by
  unfold sameB sameE
  rw [alike_told]
  cases h : (a.all okM && b.all okM && okMask m)
  · rfl
  · rfl
theorem sameE_dig {a b : List Int} {m : Int} (h : a.all okM = true) : sameE a b m = digE b m := by
  unfold sameE digE
  rw [h, Bool.true_and]
end Go.Proofs.YtdedllfgeekogaaGreatDoor
