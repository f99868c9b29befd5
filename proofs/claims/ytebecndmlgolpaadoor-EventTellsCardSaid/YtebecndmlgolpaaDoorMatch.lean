/- event.Match. -/
import Derived.Test.YtebecndmlgolpaaDoorRows
import Derived.Test.YtebecndmlgolpaaDoorNum
import Derived.Test.YtebecndmlgolpaaDoorBase
import Derived.Test.YtebecndmlgolpaaDoorEvent
import Derived.Test.YtebecndmlgolpaaDoorEvent2
import Derived.Test.YtebecndmlgolpaaDoorBank2
import Derived.WalkKit
import Derived.Lib.Hide
import Derived.Deep.RegionHeld3
import Derived.StillTailTactics
namespace Go.Proofs.YtebecndmlgolpaaDoor
open Go.RowKit

def matE (es : List (Int × Int)) (b : List Int) (m : Int) : Int := if evE es = 0 then sameE (evBank es) b m else evE es
def matB (es : List (Int × Int)) (b : List Int) (m : Int) : Bool := decide (evE es = 0) && sameB (evBank es) b m

set_option maxHeartbeats 1000000 in
theorem match_any (A : Option Addr) (c : Nat) (es : List (Int × Int)) (x0 x1 x2 x3 x4 x5 x6 x7 : Int) (m : Int) (w : World) (hA : EvsAt w A es) (hbig : es.length ≤ 9223372036854775806) :
    Calls Tryd.prog 50 #[.slice A es.length c, .agg #[.int .i64 x0, .int .i64 x1, .int .i64 x2, .int .i64 x3, .int .i64 x4, .int .i64 x5, .int .i64 x6, .int .i64 x7], .int .i64 m] w fun e w' => e = .returned (.tuple #[.bool (matB es [x0, x1, x2, x3, x4, x5, x6, x7] m), errV (matE es [x0, x1, x2, x3, x4, x5, x6, x7] m)]) ∧ Below w.heap.size w w' := by
  have en := fun k w => err_neq k w
  have gn := fun o k w => err_guard_neq o k w
  have HA := Lib.hid hA
  clear hA
  by_cases h0 : evE es = 0
  · have HF : Hid (matB es [x0, x1, x2, x3, x4, x5, x6, x7] m = sameB (evBank es) [x0, x1, x2, x3, x4, x5, x6, x7] m ∧ matE es [x0, x1, x2, x3, x4, x5, x6, x7] m = sameE (evBank es) [x0, x1, x2, x3, x4, x5, x6, x7] m) := Lib.hid (by
      unfold matB matE; rw [if_pos h0, decide_eq_true h0]; exact ⟨rfl, rfl⟩)
    have HO := Lib.hid (evE_ok h0).2
    have H0 := Lib.hid h0
    clear h0
    go_enter Tryd.func50, Tryd.ntmps50
    go_wp2_with fail
    refine (evCheck_any A c es _ (HA.out.below (grow_alloc (grow_refl _) _)) hbig).mono ?_
    rintro e w1 ⟨rfl, hb1⟩
    rw [H0.out]
    have b1 : Box w1 w.heap.size 47 #[.int .i64 x0, .int .i64 x1, .int .i64 x2, .int .i64 x3, .int .i64 x4, .int .i64 x5, .int .i64 x6, .int .i64 x7] := (Box.new _ _ _).below hb1
    have c1 := b1.cell; have l1 := b1.lt
    have g1 : Below w.heap.size w w1 := (by repeat (first | (with_reducible exact grow_refl _) | (with_reducible assumption) | (with_reducible refine grow_alloc ?_ _) | (with_reducible refine grow_set ?_ (by first | exact Nat.le_refl _ | (simp; done) | (simp; omega) | omega) _) | (with_reducible refine grow_drewN ?_ _) | (with_reducible refine grow_drew ?_) | (with_reducible refine grow_step ?_ (by assumption)) | (with_reducible refine grow_base ?_ (by assumption))))
    go_wp2_with fail
    have d1 : Box w1.drew w.heap.size _ _ := b1
    have d3 : Below w.heap.size w w1.drew := grow_drew g1
    go_region_held3 (fun w' => (∀ i, w'.cell? ⟨w.heap.size, i, none⟩ = (#[.int .i64 x0, .int .i64 x1, .int .i64 x2, .int .i64 x3, .int .i64 x4, .int .i64 x5, .int .i64 x6, .int .i64 x7] : Array Value)[i]?) ∧ Box w' w.heap.size 47 #[.int .i64 x0, .int .i64 x1, .int .i64 x2, .int .i64 x3, .int .i64 x4, .int .i64 x5, .int .i64 x6, .int .i64 x7] ∧ Below w.heap.size w w')
      (first
        | exact ⟨E1.cell, E1, E3⟩
        | exact ⟨d1.cell, d1, d3⟩
        | (go_keep; done))
      (first
        | (go_at_call 78; go_split_ands; have p1 : Box _ w.heap.size 47 #[.int .i64 x0, .int .i64 x1, .int .i64 x2, .int .i64 x3, .int .i64 x4, .int .i64 x5, .int .i64 x6, .int .i64 x7] := (by assumption); have p3 : Below w.heap.size w _ := (by assumption); refine (again_any A c es _ (HA.out.below p3) hbig HO.out).mono ?_; rintro e w2 ⟨y0, y1, y2, y3, y4, y5, y6, y7, hy, rfl, hb2⟩; have HY := Lib.hid hy; clear hy; have E1 := p1.below hb2; have E3 := grow_step p3 hb2; clear p1 p3)
        | (go_at_call 45; go_split_ands; have p1 : Box _ w.heap.size 47 #[.int .i64 x0, .int .i64 x1, .int .i64 x2, .int .i64 x3, .int .i64 x4, .int .i64 x5, .int .i64 x6, .int .i64 x7] := (by assumption); have p3 : Below w.heap.size w _ := (by assumption); refine (same_any y0 y1 y2 y3 y4 y5 y6 y7 x0 x1 x2 x3 x4 x5 x6 x7 m _).mono ?_; rintro e w3 ⟨rfl, hb3⟩; have E1 := p1.below hb3; have E3 := grow_step p3 hb3; clear p1 p3))
    go_wp2
    go_ret2
    exact ⟨by rw [HF.out.1, HF.out.2, ← HY.out]; rfl, by assumption⟩
  · have HF : Hid (matB es [x0, x1, x2, x3, x4, x5, x6, x7] m = false ∧ matE es [x0, x1, x2, x3, x4, x5, x6, x7] m = evE es) := Lib.hid (by
      unfold matB matE; rw [if_neg h0, decide_eq_false h0]; exact ⟨rfl, rfl⟩)
    have t : (evE es != 0) = true := by simp [h0]
    clear h0
    go_enter Tryd.func50, Tryd.ntmps50
    go_wp2_with fail
    refine (evCheck_any A c es _ (HA.out.below (grow_alloc (grow_refl _) _)) hbig).mono ?_
    rintro e w1 ⟨rfl, hb1⟩
    go_wp2_with fail
    go_ret2
    exact ⟨by rw [HF.out.1, HF.out.2]; rfl, (by repeat (first | (with_reducible exact grow_refl _) | (with_reducible assumption) | (with_reducible refine grow_alloc ?_ _) | (with_reducible refine grow_set ?_ (by first | exact Nat.le_refl _ | (simp; done) | (simp; omega) | omega) _) | (with_reducible refine grow_drewN ?_ _) | (with_reducible refine grow_drew ?_) | (with_reducible refine grow_step ?_ (by assumption)) | (with_reducible refine grow_base ?_ (by assumption))))⟩

end Go.Proofs.YtebecndmlgolpaaDoor
