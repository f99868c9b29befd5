/- The reference's Letters, Name, Image. -/
import Derived.Test.YtdedllfgeekogaaDoorImg
import Derived.WalkKit
import Derived.WalkSpells
import Derived.WalkLawsBesides
import Derived.Lib.Hide
namespace Go.Proofs.YtdedllfgeekogaaDoor
open Go.RowKit
set_option maxRecDepth 100000
set_option linter.unusedSimpArgs false

theorem all_take_step {xs : List Int} {pr : Int → Bool} (k : Nat) (h : k < xs.length) (h1 : (xs.take k).all pr = true) (h2 : pr (xs.getD k 0) = true) : (xs.take (k + 1)).all pr = true := by
  rw [List.take_succ_eq_append_getElem h, List.all_append, h1]
  rw [List.getD_eq_getElem?_getD, List.getElem?_eq_getElem h] at h2
  simpa using h2
theorem all_at_no {xs : List Int} {pr : Int → Bool} (k : Nat) (h : k < xs.length) (h2 : pr (xs.getD k 0) = false) : xs.all pr = false := by
  rw [List.getD_eq_getElem?_getD, List.getElem?_eq_getElem h] at h2
  rw [List.all_eq_false]
  exact ⟨xs[k], List.getElem_mem h, by simpa using h2⟩




end Go.Proofs.YtdedllfgeekogaaDoor
