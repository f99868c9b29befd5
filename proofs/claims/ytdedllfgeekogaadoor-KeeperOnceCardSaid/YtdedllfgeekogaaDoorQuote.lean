/- The walks of package quote. A quote: nonce, mask, digest, point, answer. -/
import Derived.Test.YtdedllfgeekogaaDoorRows
import Derived.Test.YtdedllfgeekogaaDoorNum
import Derived.Test.YtdedllfgeekogaaDoorBase
import Derived.Test.YtdedllfgeekogaaDoorMeas
import Derived.Test.YtdedllfgeekogaaDoorKey
import Derived.Test.YtdedllfgeekogaaDoorBank
import Derived.WalkKit
import Derived.Lib.Hide
import Derived.Deep.RegionHeld3
import Derived.StillTailTactics
namespace Go.Proofs.YtdedllfgeekogaaDoor
open Go.RowKit

def qtE (d : Int) (m : Int) (b : List Int) : Int := if okM d then digE b m else 1
def qtB (d : Int) (m : Int) (b : List Int) : Bool := okM d && (decide (digE b m = 0) && (digM b m == d))


/-! A quote that is made. -/
def mkOk (x k n m : Int) (b : List Int) : Bool := okM n && (decide (digE b m = 0) && decide (sgE x k (rowM [n, m, digM b m]) = 0))
def mkE (x k n m : Int) (b : List Int) : Int := if okM n then (if digE b m = 0 then sgE x k (rowM [n, m, digM b m]) else digE b m) else 1
def mkV (x k n m : Int) (b : List Int) : Int × Int × Int × Int × Int := if mkE x k n m b = 0 then (n, m, digM b m, sgP x k (rowM [n, m, digM b m]), sgA x k (rowM [n, m, digM b m])) else (0, 0, 0, 0, 0)
theorem digE_mask {b : List Int} {m : Int} (h : digE b m = 0) : okMask m = true := by
  unfold digE at h
  cases hm : okMask m
  · rw [hm, Bool.and_false] at h; cases h
  · rfl
theorem okM_of_mask {m : Int} (h : okMask m = true) : okM m = true := by have := okMask_yes h; exact okM_mk (by omega) (by omega)

set_option maxHeartbeats 1000000 in
theorem quoteMake_any (x k n m : Int) (x0 x1 x2 x3 x4 x5 x6 x7 : Int) (w : World) :
    Calls Tryd.prog 14 #[.int .i64 x, .int .i64 k, .int .i64 n, .int .i64 m, .agg #[.int .i64 x0, .int .i64 x1, .int .i64 x2, .int .i64 x3, .int .i64 x4, .int .i64 x5, .int .i64 x6, .int .i64 x7]] w fun e w' => (∀ v, v = mkV x k n m [x0, x1, x2, x3, x4, x5, x6, x7] → e = .returned (.tuple #[.agg #[.int .i64 v.1, .int .i64 v.2.1, .int .i64 v.2.2.1, .int .i64 v.2.2.2.1, .int .i64 v.2.2.2.2], errV (mkE x k n m [x0, x1, x2, x3, x4, x5, x6, x7])])) ∧ Below w.heap.size w w' := by
  have en := fun k w => err_neq k w
  have gn := fun o k w => err_guard_neq o k w
  have bz : Box (((w.alloc (.cells #[.int .i64 x0, .int .i64 x1, .int .i64 x2, .int .i64 x3, .int .i64 x4, .int .i64 x5, .int .i64 x6, .int .i64 x7] 38)).alloc (.cells #[.int .i64 0, .int .i64 0, .int .i64 0, .int .i64 0, .int .i64 0] 53))) (w.heap.size + 1) 53 #[.int .i64 0, .int .i64 0, .int .i64 0, .int .i64 0, .int .i64 0] := by
    have := Box.new (w.alloc (.cells #[.int .i64 x0, .int .i64 x1, .int .i64 x2, .int .i64 x3, .int .i64 x4, .int .i64 x5, .int .i64 x6, .int .i64 x7] 38)) 53 #[.int .i64 0, .int .i64 0, .int .i64 0, .int .i64 0, .int .i64 0]
    simpa using this
  cases hn : okM n
  · have HF : Hid (mkV x k n m [x0, x1, x2, x3, x4, x5, x6, x7] = (0, 0, 0, 0, 0) ∧ mkE x k n m [x0, x1, x2, x3, x4, x5, x6, x7] = 1) := Lib.hid (by
      have e : mkE x k n m [x0, x1, x2, x3, x4, x5, x6, x7] = 1 := by unfold mkE; rw [hn]; rfl
      refine ⟨?_, e⟩; unfold mkV; rw [e]; rfl)
    go_enter Tryd.func14, Tryd.ntmps14
    go_wp2_with (go_at_call 44; refine (mIs_any _ _).mono ?_; rintro e w' ⟨rfl, rfl⟩)
    refine bodyPost_ret (v := .tuple #[.agg #[.int .i64 0, .int .i64 0, .int .i64 0, .int .i64 0, .int .i64 0], errV 1]) (ret_cell_tmp Tryd.results14 rfl bz Tryd.underlying53 rfl (by kernel_rfl)) rfl ?_
    refine ⟨?_, (by repeat (first | (with_reducible exact grow_refl _) | (with_reducible assumption) | (with_reducible refine grow_alloc ?_ _) | (with_reducible refine grow_set ?_ (by first | exact Nat.le_refl _ | (simp; done) | (simp; omega) | omega) _) | (with_reducible refine grow_drewN ?_ _) | (with_reducible refine grow_drew ?_) | (with_reducible refine grow_step ?_ (by assumption)) | (with_reducible refine grow_base ?_ (by assumption))))⟩
    rintro v rfl
    rw [HF.out.1, HF.out.2]
  · by_cases hd : digE [x0, x1, x2, x3, x4, x5, x6, x7] m = 0
    · have km := okM_of_mask (digE_mask hd)
      have hok := digM_ok [x0, x1, x2, x3, x4, x5, x6, x7] m
      obtain ⟨d, hdm⟩ : ∃ d, digM [x0, x1, x2, x3, x4, x5, x6, x7] m = d := ⟨_, rfl⟩
      rw [hdm] at hok
      have hrow : ([n, m, d]).all okM = true := by simp [hn, km, hok]
      have kr := rowM_ok [n, m, d]
      obtain ⟨r, hr⟩ : ∃ r, rowM [n, m, d] = r := ⟨_, rfl⟩
      obtain ⟨E, hE⟩ : ∃ E, sgE x k r = E := ⟨_, rfl⟩
      have HF : Hid (mkE x k n m [x0, x1, x2, x3, x4, x5, x6, x7] = E) := Lib.hid (by unfold mkE; rw [hn, if_pos hd, hdm, hr, hE]; rfl)
      have HV : Hid (E = 0 → mkV x k n m [x0, x1, x2, x3, x4, x5, x6, x7] = (n, m, d, sgP x k r, sgA x k r)) := Lib.hid (fun h => by unfold mkV; rw [HF.out, if_pos h, hdm, hr])
      have HW : Hid (E ≠ 0 → mkV x k n m [x0, x1, x2, x3, x4, x5, x6, x7] = (0, 0, 0, 0, 0)) := Lib.hid (fun h => by unfold mkV; rw [HF.out, if_neg h])
      have HD := Lib.hid (And.intro hd hdm)
      have HR := Lib.hid hr
      have HE := Lib.hid hE
      have HRO := Lib.hid hrow
      clear hd hdm hr hE hrow kr
      by_cases h0 : E = 0
      · subst h0
        have HV := Lib.hid (HV.out rfl)
        go_enter Tryd.func14, Tryd.ntmps14
        go_wp2_with (go_at_call 44; refine (mIs_any _ _).mono ?_; rintro e w' ⟨rfl, rfl⟩)
        refine (digest_any x0 x1 x2 x3 x4 x5 x6 x7 _ _).mono ?_
        rintro e w1 ⟨rfl, hb1⟩
        rw [HD.out.1, HD.out.2]
        have bz1 := bz.below hb1
        have cz := bz1.cell; have fz := bz1.frozen; have lz := bz1.lt
        have g1 : Below w.heap.size w w1 := (by repeat (first | (with_reducible exact grow_refl _) | (with_reducible assumption) | (with_reducible refine grow_alloc ?_ _) | (with_reducible refine grow_set ?_ (by first | exact Nat.le_refl _ | (simp; done) | (simp; omega) | omega) _) | (with_reducible refine grow_drewN ?_ _) | (with_reducible refine grow_drew ?_) | (with_reducible refine grow_step ?_ (by assumption)) | (with_reducible refine grow_base ?_ (by assumption))))
        go_wp2_with fail
        refine (row_any _ 3 [n, m, d] _ (IntsAt.new_ _ _ _ _) HRO.out (by simp)).mono ?_
        rintro e w' ⟨rfl, rfl⟩
        rw [HR.out]
        go_wp2_with fail
        refine (sign_any x k r _).mono ?_
        rintro e w2 ⟨rfl, hb2⟩
        rw [HE.out]
        have bz2 := (Box.alloc_ bz1 _).below hb2
        have cz2 := bz2.cell; have fz2 := bz2.frozen; have lz2 := bz2.lt
        have g2 : Below w.heap.size w w2 := grow_step (grow_alloc g1 _) hb2
        clear cz fz lz
        go_wp2_with fail
        refine bodyPost_ret (v := .tuple #[.agg #[.int .i64 n, .int .i64 m, .int .i64 d, .int .i64 (sgP x k r), .int .i64 (sgA x k r)], errV 0]) (ret_cell_tmp Tryd.results14 rfl ((bz2.fill5 _ _ _ _ _).alloc_ _) Tryd.underlying53 rfl (by kernel_rfl)) rfl ?_
        refine ⟨?_, (by repeat (first | (with_reducible exact grow_refl _) | (with_reducible assumption) | (with_reducible refine grow_alloc ?_ _) | (with_reducible refine grow_set ?_ (by first | exact Nat.le_refl _ | (simp; done) | (simp; omega) | omega) _) | (with_reducible refine grow_drewN ?_ _) | (with_reducible refine grow_drew ?_) | (with_reducible refine grow_step ?_ (by assumption)) | (with_reducible refine grow_base ?_ (by assumption))))⟩
        rintro v rfl
        rw [HV.out, HF.out]
        all_goals trivial
      · have t : (E != 0) = true := by simpa using h0
        have HW2 := Lib.hid (HW.out h0)
        clear h0
        go_enter Tryd.func14, Tryd.ntmps14
        go_wp2_with (go_at_call 44; refine (mIs_any _ _).mono ?_; rintro e w' ⟨rfl, rfl⟩)
        refine (digest_any x0 x1 x2 x3 x4 x5 x6 x7 _ _).mono ?_
        rintro e w1 ⟨rfl, hb1⟩
        rw [HD.out.1, HD.out.2]
        have bz1 := bz.below hb1
        have cz := bz1.cell; have fz := bz1.frozen; have lz := bz1.lt
        have g1 : Below w.heap.size w w1 := (by repeat (first | (with_reducible exact grow_refl _) | (with_reducible assumption) | (with_reducible refine grow_alloc ?_ _) | (with_reducible refine grow_set ?_ (by first | exact Nat.le_refl _ | (simp; done) | (simp; omega) | omega) _) | (with_reducible refine grow_drewN ?_ _) | (with_reducible refine grow_drew ?_) | (with_reducible refine grow_step ?_ (by assumption)) | (with_reducible refine grow_base ?_ (by assumption))))
        go_wp2_with fail
        refine (row_any _ 3 [n, m, d] _ (IntsAt.new_ _ _ _ _) HRO.out (by simp)).mono ?_
        rintro e w' ⟨rfl, rfl⟩
        rw [HR.out]
        go_wp2_with fail
        refine (sign_any x k r _).mono ?_
        rintro e w2 ⟨rfl, hb2⟩
        rw [HE.out]
        have bz2 := (Box.alloc_ bz1 _).below hb2
        have cz2 := bz2.cell; have fz2 := bz2.frozen; have lz2 := bz2.lt
        have g2 : Below w.heap.size w w2 := grow_step (grow_alloc g1 _) hb2
        clear cz fz lz
        go_wp2_with fail
        refine bodyPost_ret (v := .tuple #[.agg #[.int .i64 0, .int .i64 0, .int .i64 0, .int .i64 0, .int .i64 0], errV E]) (ret_cell_tmp Tryd.results14 rfl ((bz2.fill5 _ _ _ _ _).alloc_ _) Tryd.underlying53 rfl (by kernel_rfl)) rfl ?_
        refine ⟨?_, (by repeat (first | (with_reducible exact grow_refl _) | (with_reducible assumption) | (with_reducible refine grow_alloc ?_ _) | (with_reducible refine grow_set ?_ (by first | exact Nat.le_refl _ | (simp; done) | (simp; omega) | omega) _) | (with_reducible refine grow_drewN ?_ _) | (with_reducible refine grow_drew ?_) | (with_reducible refine grow_step ?_ (by assumption)) | (with_reducible refine grow_base ?_ (by assumption))))⟩
        rintro v rfl
        rw [HW2.out, HF.out]
    · have hd1 : digE [x0, x1, x2, x3, x4, x5, x6, x7] m = 1 := by rcases digE_01 [x0, x1, x2, x3, x4, x5, x6, x7] m with h | h; exact absurd h hd; exact h
      have HF : Hid (mkV x k n m [x0, x1, x2, x3, x4, x5, x6, x7] = (0, 0, 0, 0, 0) ∧ mkE x k n m [x0, x1, x2, x3, x4, x5, x6, x7] = 1) := Lib.hid (by
        have e : mkE x k n m [x0, x1, x2, x3, x4, x5, x6, x7] = 1 := by unfold mkE; rw [hn, if_neg hd]; exact hd1
        refine ⟨?_, e⟩; unfold mkV; rw [e]; rfl)
      have HD := Lib.hid hd1
      clear hd hd1
      go_enter Tryd.func14, Tryd.ntmps14
      go_wp2_with (first | (go_at_call 44; refine (mIs_any _ _).mono ?_; rintro e w' ⟨rfl, rfl⟩) | (go_at_call 48; refine (digest_any x0 x1 x2 x3 x4 x5 x6 x7 _ _).mono ?_; rintro e w1 ⟨rfl, hb1⟩; rw [HD.out]; have bz1 := bz.below hb1; have cz := bz1.cell; have fz := bz1.frozen; have lz := bz1.lt))
      refine bodyPost_ret (v := .tuple #[.agg #[.int .i64 0, .int .i64 0, .int .i64 0, .int .i64 0, .int .i64 0], errV 1]) (ret_cell_tmp Tryd.results14 rfl (bz1.fill5 _ _ _ _ _) Tryd.underlying53 rfl (by kernel_rfl)) rfl ?_
      refine ⟨?_, (by repeat (first | (with_reducible exact grow_refl _) | (with_reducible assumption) | (with_reducible refine grow_alloc ?_ _) | (with_reducible refine grow_set ?_ (by first | exact Nat.le_refl _ | (simp; done) | (simp; omega) | omega) _) | (with_reducible refine grow_drewN ?_ _) | (with_reducible refine grow_drew ?_) | (with_reducible refine grow_step ?_ (by assumption)) | (with_reducible refine grow_base ?_ (by assumption))))⟩
      rintro v rfl
      rw [HF.out.1, HF.out.2]

end Go.Proofs.YtdedllfgeekogaaDoor
