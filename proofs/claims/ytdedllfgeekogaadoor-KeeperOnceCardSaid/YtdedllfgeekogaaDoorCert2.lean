/- cert.Make. -/
import Derived.Test.YtdedllfgeekogaaDoorRows
import Derived.Test.YtdedllfgeekogaaDoorNum
import Derived.Test.YtdedllfgeekogaaDoorBase
import Derived.Test.YtdedllfgeekogaaDoorMeas
import Derived.Test.YtdedllfgeekogaaDoorKey
import Derived.Test.YtdedllfgeekogaaDoorCert
import Derived.WalkKit
import Derived.Lib.Hide
namespace Go.Proofs.YtdedllfgeekogaaDoor
open Go.RowKit

def cmE (x k q : Int) : Int := if okIn q then sgE x k q else 1
def cmV (x k q : Int) : Int × Int × Int := if cmE x k q = 0 then (q, sgP x k q, sgA x k q) else (0, 0, 0)

set_option maxHeartbeats 1000000 in
theorem certMake_any (x k q : Int) (w : World) :
    Calls Tryd.prog 16 #[.int .i64 x, .int .i64 k, .int .i64 q] w fun e w' => (∀ v, v = cmV x k q → e = .returned (.tuple #[.agg #[.int .i64 v.1, .int .i64 v.2.1, .int .i64 v.2.2], errV (cmE x k q)])) ∧ Below w.heap.size w w' := by
  have en := fun k w => err_neq k w
  have gn := fun o k w => err_guard_neq o k w
  have bz : Box (w.alloc (.cells #[.int .i64 0, .int .i64 0, .int .i64 0] 60)) w.heap.size 60 #[.int .i64 0, .int .i64 0, .int .i64 0] := Box.new _ _ _
  cases hq : okIn q
  · have HF : Hid (cmV x k q = (0, 0, 0) ∧ cmE x k q = 1) := Lib.hid (by
      have e : cmE x k q = 1 := by unfold cmE; rw [hq]; rfl
      refine ⟨?_, e⟩; unfold cmV; rw [e]; rfl)
    go_enter Tryd.func16, Tryd.ntmps16
    go_wp2_with (go_at_call 43; refine (in_any _ _).mono ?_; rintro e w' ⟨rfl, rfl⟩)
    refine bodyPost_ret (v := .tuple #[.agg #[.int .i64 0, .int .i64 0, .int .i64 0], errV 1]) (ret_cell_tmp Tryd.results16 rfl bz Tryd.underlying60 rfl (by kernel_rfl)) rfl ?_
    refine ⟨?_, (by repeat (first | (with_reducible exact grow_refl _) | (with_reducible assumption) | (with_reducible refine grow_alloc ?_ _) | (with_reducible refine grow_set ?_ (by first | exact Nat.le_refl _ | (simp; done) | (simp; omega) | omega) _) | (with_reducible refine grow_drewN ?_ _) | (with_reducible refine grow_drew ?_) | (with_reducible refine grow_step ?_ (by assumption)) | (with_reducible refine grow_base ?_ (by assumption))))⟩
    rintro v rfl
    rw [HF.out.1, HF.out.2]
  · obtain ⟨E, hE⟩ : ∃ E, sgE x k q = E := ⟨_, rfl⟩
    have he : cmE x k q = E := by unfold cmE; rw [hq, hE]; rfl
    by_cases h0 : E = 0
    · have HF : Hid (cmV x k q = (q, sgP x k q, sgA x k q) ∧ cmE x k q = 0) := Lib.hid ⟨by unfold cmV; rw [he, if_pos h0], he.trans h0⟩
      have HE := Lib.hid (hE.trans h0)
      clear he hE h0
      go_enter Tryd.func16, Tryd.ntmps16
      go_wp2_with (first | (go_at_call 43; refine (in_any _ _).mono ?_; rintro e w' ⟨rfl, rfl⟩) | (go_at_call 36; refine (sign_any _ _ _ _).mono ?_; rintro e w1 ⟨rfl, hb1⟩; rw [HE.out]; have bz1 := bz.below hb1; have cz := bz1.cell; have fz := bz1.frozen; have lz := bz1.lt))
      refine bodyPost_ret (v := .tuple #[.agg #[.int .i64 q, .int .i64 (sgP x k q), .int .i64 (sgA x k q)], errV 0]) (ret_cell_tmp Tryd.results16 rfl ((bz1.fill3 _ _ _).alloc_ _) Tryd.underlying60 rfl (by kernel_rfl)) rfl ?_
      refine ⟨?_, (by repeat (first | (with_reducible exact grow_refl _) | (with_reducible assumption) | (with_reducible refine grow_alloc ?_ _) | (with_reducible refine grow_set ?_ (by first | exact Nat.le_refl _ | (simp; done) | (simp; omega) | omega) _) | (with_reducible refine grow_drewN ?_ _) | (with_reducible refine grow_drew ?_) | (with_reducible refine grow_step ?_ (by assumption)) | (with_reducible refine grow_base ?_ (by assumption))))⟩
      rintro v rfl
      rw [HF.out.1, HF.out.2]
    · have HF : Hid (cmV x k q = (0, 0, 0) ∧ cmE x k q = E) := Lib.hid ⟨by unfold cmV; rw [he, if_neg h0], he⟩
      have HE := Lib.hid hE
      have t : (E != 0) = true := by simpa using h0
      clear he hE h0
      go_enter Tryd.func16, Tryd.ntmps16
      go_wp2_with (first | (go_at_call 43; refine (in_any _ _).mono ?_; rintro e w' ⟨rfl, rfl⟩) | (go_at_call 36; refine (sign_any _ _ _ _).mono ?_; rintro e w1 ⟨rfl, hb1⟩; rw [HE.out]; have bz1 := bz.below hb1; have cz := bz1.cell; have fz := bz1.frozen; have lz := bz1.lt))
      refine bodyPost_ret (v := .tuple #[.agg #[.int .i64 0, .int .i64 0, .int .i64 0], errV E]) (ret_cell_tmp Tryd.results16 rfl ((bz1.fill3 _ _ _).alloc_ _) Tryd.underlying60 rfl (by kernel_rfl)) rfl ?_
      refine ⟨?_, (by repeat (first | (with_reducible exact grow_refl _) | (with_reducible assumption) | (with_reducible refine grow_alloc ?_ _) | (with_reducible refine grow_set ?_ (by first | exact Nat.le_refl _ | (simp; done) | (simp; omega) | omega) _) | (with_reducible refine grow_drewN ?_ _) | (with_reducible refine grow_drew ?_) | (with_reducible refine grow_step ?_ (by assumption)) | (with_reducible refine grow_base ?_ (by assumption))))⟩
      rintro v rfl
      rw [HF.out.1, HF.out.2]

end Go.Proofs.YtdedllfgeekogaaDoor
