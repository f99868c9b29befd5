/- event.Replay. -/
import Derived.Test.YtdedllfgeekogaaDoorRows
import Derived.Test.YtdedllfgeekogaaDoorNum
import Derived.Test.YtdedllfgeekogaaDoorBase
import Derived.Test.YtdedllfgeekogaaDoorEvent
import Derived.WalkKit
import Derived.Lib.Hide
namespace Go.Proofs.YtdedllfgeekogaaDoor
open Go.RowKit

def ReplayPost (es : List (Int × Int)) (w : World) (e : Ending) (w' : World) : Prop :=
  ∃ y0 y1 y2 y3 y4 y5 y6 y7 : Int, [y0, y1, y2, y3, y4, y5, y6, y7] = repB es ∧ e = .returned (.tuple #[.agg #[.int .i64 y0, .int .i64 y1, .int .i64 y2, .int .i64 y3, .int .i64 y4, .int .i64 y5, .int .i64 y6, .int .i64 y7], errV (evE es)]) ∧ Below w.heap.size w w'

theorem evE_ok {es : List (Int × Int)} (h : evE es = 0) : es.length ≤ 30 ∧ es.all okEv = true := by
  unfold evE at h
  by_cases h1 : 30 < es.length
  · rw [if_pos h1] at h; cases h
  · rw [if_neg h1] at h
    cases h2 : es.all okEv
    · rw [h2] at h; cases h
    · exact ⟨by omega, rfl⟩

set_option maxHeartbeats 1000000 in
theorem replay_any (A : Option Addr) (c : Nat) (es : List (Int × Int)) (w : World) (hA : EvsAt w A es) (hbig : es.length ≤ 9223372036854775806) :
    Calls Tryd.prog 30 #[.slice A es.length c] w (ReplayPost es w) := by
  have en := fun k w => err_neq k w
  have gn := fun o k w => err_guard_neq o k w
  have HA := Lib.hid hA
  clear hA
  by_cases h0 : evE es = 0
  · have HF : Hid (repB es = evBank es) := Lib.hid (by unfold repB; rw [if_pos h0])
    have HO := Lib.hid (evE_ok h0).2
    have H0 := Lib.hid h0
    clear h0
    go_enter Tryd.func30, Tryd.ntmps30
    go_wp2_with fail
    refine (evCheck_any A c es _ (HA.out.below (grow_alloc (grow_refl _) _)) hbig).mono ?_
    rintro e w1 ⟨rfl, hb1⟩
    rw [H0.out]
    go_wp2_with fail
    refine (again_any A c es _ ((HA.out.below (grow_alloc (grow_refl _) _)).below hb1) hbig HO.out).mono ?_
    rintro e w2 ⟨y0, y1, y2, y3, y4, y5, y6, y7, hy, rfl, hb2⟩
    have HY := Lib.hid hy
    clear hy
    have bz : Box w2 w.heap.size 38 #[.int .i64 0, .int .i64 0, .int .i64 0, .int .i64 0, .int .i64 0, .int .i64 0, .int .i64 0, .int .i64 0] := ((Box.new _ _ _).below hb1).below hb2
    have c1 := bz.cell; have f1 := bz.frozen; have l1 := bz.lt
    go_wp2_with fail
    refine bodyPost_ret (v := .tuple #[.agg #[.int .i64 y0, .int .i64 y1, .int .i64 y2, .int .i64 y3, .int .i64 y4, .int .i64 y5, .int .i64 y6, .int .i64 y7], errV 0]) (ret_cell_tmp Tryd.results30 rfl (bz.fill8 _ _ _ _ _ _ _ _) Tryd.underlying38 rfl (by kernel_rfl)) rfl ?_
    exact ⟨y0, y1, y2, y3, y4, y5, y6, y7, by rw [HF.out, HY.out], by rw [H0.out], (by repeat (first | (with_reducible exact grow_refl _) | (with_reducible assumption) | (with_reducible refine grow_alloc ?_ _) | (with_reducible refine grow_set ?_ (by first | exact Nat.le_refl _ | (simp; done) | (simp; omega) | omega) _) | (with_reducible refine grow_drewN ?_ _) | (with_reducible refine grow_drew ?_) | (with_reducible refine grow_step ?_ (by assumption)) | (with_reducible refine grow_base ?_ (by assumption))))⟩
  · have HF : Hid ([0, 0, 0, 0, 0, 0, 0, 0] = repB es) := Lib.hid (by unfold repB; rw [if_neg h0])
    have t : (evE es != 0) = true := by simp [h0]
    clear h0
    go_enter Tryd.func30, Tryd.ntmps30
    go_wp2_with fail
    refine (evCheck_any A c es _ (HA.out.below (grow_alloc (grow_refl _) _)) hbig).mono ?_
    rintro e w1 ⟨rfl, hb1⟩
    have bz : Box w1 w.heap.size 38 #[.int .i64 0, .int .i64 0, .int .i64 0, .int .i64 0, .int .i64 0, .int .i64 0, .int .i64 0, .int .i64 0] := (Box.new _ _ _).below hb1
    have c1 := bz.cell; have f1 := bz.frozen; have l1 := bz.lt
    go_wp2_with fail
    refine bodyPost_ret (v := .tuple #[.agg #[.int .i64 0, .int .i64 0, .int .i64 0, .int .i64 0, .int .i64 0, .int .i64 0, .int .i64 0, .int .i64 0], errV (evE es)]) (ret_cell_tmp Tryd.results30 rfl (bz.fill8 _ _ _ _ _ _ _ _) Tryd.underlying38 rfl (by kernel_rfl)) rfl ?_
    exact ⟨0, 0, 0, 0, 0, 0, 0, 0, HF.out, rfl, (by repeat (first | (with_reducible exact grow_refl _) | (with_reducible assumption) | (with_reducible refine grow_alloc ?_ _) | (with_reducible refine grow_set ?_ (by first | exact Nat.le_refl _ | (simp; done) | (simp; omega) | omega) _) | (with_reducible refine grow_drewN ?_ _) | (with_reducible refine grow_drew ?_) | (with_reducible refine grow_step ?_ (by assumption)) | (with_reducible refine grow_base ?_ (by assumption))))⟩

end Go.Proofs.YtdedllfgeekogaaDoor
