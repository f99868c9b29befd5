/- bank.Extend. -/
import Derived.Test.YtegiffdlfpdbkaaGreatDoorRows
import Derived.Test.YtegiffdlfpdbkaaGreatDoorNum
import Derived.Test.YtegiffdlfpdbkaaGreatDoorBase
import Derived.Test.YtegiffdlfpdbkaaGreatDoorMeas
import Derived.Test.YtegiffdlfpdbkaaGreatDoorBank
import Derived.WalkKit
import Derived.Lib.Hide
namespace Go.Proofs.YtegiffdlfpdbkaaGreatDoor
open Go.RowKit

def ExtPost (b : List Int) (i m : Int) (w : World) (e : Ending) (w' : World) : Prop :=
  ∃ y0 y1 y2 y3 y4 y5 y6 y7 : Int, [y0, y1, y2, y3, y4, y5, y6, y7] = extB b i m ∧ e = .returned (.tuple #[.agg #[.int .i64 y0, .int .i64 y1, .int .i64 y2, .int .i64 y3, .int .i64 y4, .int .i64 y5, .int .i64 y6, .int .i64 y7], errV (extE b i m)]) ∧ Below w.heap.size w w'

theorem ext_no {b : List Int} {i m : Int} (h : extOk b i m = false) : [0, 0, 0, 0, 0, 0, 0, 0] = extB b i m ∧ extE b i m = 1 := by unfold extB extE; rw [h]; exact ⟨rfl, rfl⟩
theorem ext_yes {b : List Int} {i m : Int} (h : extOk b i m = true) : extB b i m = b.set i.toNat (pairM (b.getD i.toNat 0) m) ∧ extE b i m = 0 := by unfold extB extE; rw [h]; exact ⟨rfl, rfl⟩

set_option maxHeartbeats 1000000 in
theorem extend_any (x0 x1 x2 x3 x4 x5 x6 x7 : Int) (i m : Int) (w : World) :
    Calls Tryz.prog 77 #[.agg #[.int .i64 x0, .int .i64 x1, .int .i64 x2, .int .i64 x3, .int .i64 x4, .int .i64 x5, .int .i64 x6, .int .i64 x7], .int .i64 i, .int .i64 m] w (ExtPost [x0, x1, x2, x3, x4, x5, x6, x7] i m w) := by
  have en := fun k w => err_neq k w
  have gn := fun o k w => err_guard_neq o k w
  cases hb : ([x0, x1, x2, x3, x4, x5, x6, x7]).all okM
  · have h := ext_no (b := [x0, x1, x2, x3, x4, x5, x6, x7]) (i := i) (m := m) (by unfold extOk; rw [hb]; rfl)
    have HN := Lib.hid h
    have e2 := bankE_no hb
    clear h hb
    go_enter Tryz.func77, Tryz.ntmps77
    go_wp2_with fail
    refine (bankCheck_any x0 x1 x2 x3 x4 x5 x6 x7 _).mono ?_
    rintro e w1 ⟨rfl, hb1⟩
    rw [e2]
    have bx : Box w1 w.heap.size 30 #[.int .i64 x0, .int .i64 x1, .int .i64 x2, .int .i64 x3, .int .i64 x4, .int .i64 x5, .int .i64 x6, .int .i64 x7] := ((Box.new _ _ _).below (grow_alloc (grow_refl _) _)).below hb1
    have bz : Box w1 (w.heap.size + 1) 30 #[.int .i64 0, .int .i64 0, .int .i64 0, .int .i64 0, .int .i64 0, .int .i64 0, .int .i64 0, .int .i64 0] := by have := (Box.new (w.alloc (.cells #[.int .i64 x0, .int .i64 x1, .int .i64 x2, .int .i64 x3, .int .i64 x4, .int .i64 x5, .int .i64 x6, .int .i64 x7] 30)) 30 #[.int .i64 0, .int .i64 0, .int .i64 0, .int .i64 0, .int .i64 0, .int .i64 0, .int .i64 0, .int .i64 0]).below hb1; simpa using this
    have c1 := bx.cell; have f1 := bx.frozen; have l1 := bx.lt; have c2 := bz.cell; have f2 := bz.frozen; have l2 := bz.lt
    go_wp2_with (first | (go_at_call 97; refine (register_any _ _).mono ?_; rintro e w' ⟨rfl, rfl⟩) | (go_at_call 85; refine (mIs_any _ _).mono ?_; rintro e w' ⟨rfl, rfl⟩))
    refine bodyPost_ret (v := .tuple #[.agg #[.int .i64 0, .int .i64 0, .int .i64 0, .int .i64 0, .int .i64 0, .int .i64 0, .int .i64 0, .int .i64 0], errV 1]) (ret_cell_tmp Tryz.results77 rfl (bz.fill8 _ _ _ _ _ _ _ _) Tryz.underlying30 rfl (by kernel_rfl)) rfl ?_
    exact ⟨0, 0, 0, 0, 0, 0, 0, 0, HN.out.1, by rw [HN.out.2], (by repeat (first | (with_reducible exact grow_refl _) | (with_reducible assumption) | (with_reducible refine grow_alloc ?_ _) | (with_reducible refine grow_set ?_ (by first | exact Nat.le_refl _ | (simp; done) | (simp; omega) | omega) _) | (with_reducible refine grow_drewN ?_ _) | (with_reducible refine grow_drew ?_) | (with_reducible refine grow_step ?_ (by assumption)) | (with_reducible refine grow_base ?_ (by assumption))))⟩
  · have e2 := bankE_yes hb
    cases hi : okReg i
    · have h := ext_no (b := [x0, x1, x2, x3, x4, x5, x6, x7]) (i := i) (m := m) (by unfold extOk; rw [hb, hi]; rfl)
      have HN := Lib.hid h
      clear h hb
      go_enter Tryz.func77, Tryz.ntmps77
      go_wp2_with fail
      refine (bankCheck_any x0 x1 x2 x3 x4 x5 x6 x7 _).mono ?_
      rintro e w1 ⟨rfl, hb1⟩
      rw [e2]
      have bx : Box w1 w.heap.size 30 #[.int .i64 x0, .int .i64 x1, .int .i64 x2, .int .i64 x3, .int .i64 x4, .int .i64 x5, .int .i64 x6, .int .i64 x7] := ((Box.new _ _ _).below (grow_alloc (grow_refl _) _)).below hb1
      have bz : Box w1 (w.heap.size + 1) 30 #[.int .i64 0, .int .i64 0, .int .i64 0, .int .i64 0, .int .i64 0, .int .i64 0, .int .i64 0, .int .i64 0] := by have := (Box.new (w.alloc (.cells #[.int .i64 x0, .int .i64 x1, .int .i64 x2, .int .i64 x3, .int .i64 x4, .int .i64 x5, .int .i64 x6, .int .i64 x7] 30)) 30 #[.int .i64 0, .int .i64 0, .int .i64 0, .int .i64 0, .int .i64 0, .int .i64 0, .int .i64 0, .int .i64 0]).below hb1; simpa using this
      have c1 := bx.cell; have f1 := bx.frozen; have l1 := bx.lt; have c2 := bz.cell; have f2 := bz.frozen; have l2 := bz.lt
      go_wp2_with (first | (go_at_call 97; refine (register_any _ _).mono ?_; rintro e w' ⟨rfl, rfl⟩) | (go_at_call 85; refine (mIs_any _ _).mono ?_; rintro e w' ⟨rfl, rfl⟩))
      refine bodyPost_ret (v := .tuple #[.agg #[.int .i64 0, .int .i64 0, .int .i64 0, .int .i64 0, .int .i64 0, .int .i64 0, .int .i64 0, .int .i64 0], errV 1]) (ret_cell_tmp Tryz.results77 rfl (bz.fill8 _ _ _ _ _ _ _ _) Tryz.underlying30 rfl (by kernel_rfl)) rfl ?_
      exact ⟨0, 0, 0, 0, 0, 0, 0, 0, HN.out.1, by rw [HN.out.2], (by repeat (first | (with_reducible exact grow_refl _) | (with_reducible assumption) | (with_reducible refine grow_alloc ?_ _) | (with_reducible refine grow_set ?_ (by first | exact Nat.le_refl _ | (simp; done) | (simp; omega) | omega) _) | (with_reducible refine grow_drewN ?_ _) | (with_reducible refine grow_drew ?_) | (with_reducible refine grow_step ?_ (by assumption)) | (with_reducible refine grow_base ?_ (by assumption))))⟩
    · cases hm : okM m
      · have h := ext_no (b := [x0, x1, x2, x3, x4, x5, x6, x7]) (i := i) (m := m) (by unfold extOk; rw [hb, hi, hm]; rfl)
        have HN := Lib.hid h
        clear h hb
        go_enter Tryz.func77, Tryz.ntmps77
        go_wp2_with fail
        refine (bankCheck_any x0 x1 x2 x3 x4 x5 x6 x7 _).mono ?_
        rintro e w1 ⟨rfl, hb1⟩
        rw [e2]
        have bx : Box w1 w.heap.size 30 #[.int .i64 x0, .int .i64 x1, .int .i64 x2, .int .i64 x3, .int .i64 x4, .int .i64 x5, .int .i64 x6, .int .i64 x7] := ((Box.new _ _ _).below (grow_alloc (grow_refl _) _)).below hb1
        have bz : Box w1 (w.heap.size + 1) 30 #[.int .i64 0, .int .i64 0, .int .i64 0, .int .i64 0, .int .i64 0, .int .i64 0, .int .i64 0, .int .i64 0] := by have := (Box.new (w.alloc (.cells #[.int .i64 x0, .int .i64 x1, .int .i64 x2, .int .i64 x3, .int .i64 x4, .int .i64 x5, .int .i64 x6, .int .i64 x7] 30)) 30 #[.int .i64 0, .int .i64 0, .int .i64 0, .int .i64 0, .int .i64 0, .int .i64 0, .int .i64 0, .int .i64 0]).below hb1; simpa using this
        have c1 := bx.cell; have f1 := bx.frozen; have l1 := bx.lt; have c2 := bz.cell; have f2 := bz.frozen; have l2 := bz.lt
        go_wp2_with (first | (go_at_call 97; refine (register_any _ _).mono ?_; rintro e w' ⟨rfl, rfl⟩) | (go_at_call 85; refine (mIs_any _ _).mono ?_; rintro e w' ⟨rfl, rfl⟩))
        refine bodyPost_ret (v := .tuple #[.agg #[.int .i64 0, .int .i64 0, .int .i64 0, .int .i64 0, .int .i64 0, .int .i64 0, .int .i64 0, .int .i64 0], errV 1]) (ret_cell_tmp Tryz.results77 rfl (bz.fill8 _ _ _ _ _ _ _ _) Tryz.underlying30 rfl (by kernel_rfl)) rfl ?_
        exact ⟨0, 0, 0, 0, 0, 0, 0, 0, HN.out.1, by rw [HN.out.2], (by repeat (first | (with_reducible exact grow_refl _) | (with_reducible assumption) | (with_reducible refine grow_alloc ?_ _) | (with_reducible refine grow_set ?_ (by first | exact Nat.le_refl _ | (simp; done) | (simp; omega) | omega) _) | (with_reducible refine grow_drewN ?_ _) | (with_reducible refine grow_drew ?_) | (with_reducible refine grow_step ?_ (by assumption)) | (with_reducible refine grow_base ?_ (by assumption))))⟩
      · have h := ext_yes (b := [x0, x1, x2, x3, x4, x5, x6, x7]) (i := i) (m := m) (by unfold extOk; rw [hb, hi, hm]; rfl)
        have HY := Lib.hid h
        have HB := Lib.hid hb
        clear h hb
        have hi' := okReg_yes hi
        have hcase : i = 0 ∨ i = 1 ∨ i = 2 ∨ i = 3 ∨ i = 4 ∨ i = 5 ∨ i = 6 ∨ i = 7 := by omega
        clear hi'
        rcases hcase with rfl | rfl | rfl | rfl | rfl | rfl | rfl | rfl
        · have kx : okM x0 = true := all_at HB.out 0 (by simp)
          have HP : Hid ([pairM x0 m, x1, x2, x3, x4, x5, x6, x7] = extB [x0, x1, x2, x3, x4, x5, x6, x7] 0 m) := Lib.hid (by rw [HY.out.1]; rfl)
          go_enter Tryz.func77, Tryz.ntmps77
          go_wp2_with fail
          refine (bankCheck_any x0 x1 x2 x3 x4 x5 x6 x7 _).mono ?_
          rintro e w1 ⟨rfl, hb1⟩
          rw [e2]
          have bx : Box w1 w.heap.size 30 #[.int .i64 x0, .int .i64 x1, .int .i64 x2, .int .i64 x3, .int .i64 x4, .int .i64 x5, .int .i64 x6, .int .i64 x7] := ((Box.new _ _ _).below (grow_alloc (grow_refl _) _)).below hb1
          have bz : Box w1 (w.heap.size + 1) 30 #[.int .i64 0, .int .i64 0, .int .i64 0, .int .i64 0, .int .i64 0, .int .i64 0, .int .i64 0, .int .i64 0] := by have := (Box.new (w.alloc (.cells #[.int .i64 x0, .int .i64 x1, .int .i64 x2, .int .i64 x3, .int .i64 x4, .int .i64 x5, .int .i64 x6, .int .i64 x7] 30)) 30 #[.int .i64 0, .int .i64 0, .int .i64 0, .int .i64 0, .int .i64 0, .int .i64 0, .int .i64 0, .int .i64 0]).below hb1; simpa using this
          have c1 := bx.cell; have f1 := bx.frozen; have l1 := bx.lt; have c2 := bz.cell; have f2 := bz.frozen; have l2 := bz.lt
          go_wp2_with (first | (go_at_call 97; refine (register_any _ _).mono ?_; rintro e w' ⟨rfl, rfl⟩) | (go_at_call 85; refine (mIs_any _ _).mono ?_; rintro e w' ⟨rfl, rfl⟩) | (go_at_call 98; refine (pair_any _ _ _ kx hm).mono ?_; rintro e w2 ⟨rfl, rfl⟩))
          refine bodyPost_ret (v := .tuple #[.agg #[.int .i64 (pairM x0 m), .int .i64 x1, .int .i64 x2, .int .i64 x3, .int .i64 x4, .int .i64 x5, .int .i64 x6, .int .i64 x7], errV 0]) (ret_cell_tmp Tryz.results77 rfl ((bz.far (by simp) _).fill8 _ _ _ _ _ _ _ _) Tryz.underlying30 rfl (by kernel_rfl)) rfl ?_
          exact ⟨(pairM x0 m), x1, x2, x3, x4, x5, x6, x7, HP.out, by rw [HY.out.2], (by repeat (first | (with_reducible exact grow_refl _) | (with_reducible assumption) | (with_reducible refine grow_alloc ?_ _) | (with_reducible refine grow_set ?_ (by first | exact Nat.le_refl _ | (simp; done) | (simp; omega) | omega) _) | (with_reducible refine grow_drewN ?_ _) | (with_reducible refine grow_drew ?_) | (with_reducible refine grow_step ?_ (by assumption)) | (with_reducible refine grow_base ?_ (by assumption))))⟩
        · have kx : okM x1 = true := all_at HB.out 1 (by simp)
          have HP : Hid ([x0, pairM x1 m, x2, x3, x4, x5, x6, x7] = extB [x0, x1, x2, x3, x4, x5, x6, x7] 1 m) := Lib.hid (by rw [HY.out.1]; rfl)
          go_enter Tryz.func77, Tryz.ntmps77
          go_wp2_with fail
          refine (bankCheck_any x0 x1 x2 x3 x4 x5 x6 x7 _).mono ?_
          rintro e w1 ⟨rfl, hb1⟩
          rw [e2]
          have bx : Box w1 w.heap.size 30 #[.int .i64 x0, .int .i64 x1, .int .i64 x2, .int .i64 x3, .int .i64 x4, .int .i64 x5, .int .i64 x6, .int .i64 x7] := ((Box.new _ _ _).below (grow_alloc (grow_refl _) _)).below hb1
          have bz : Box w1 (w.heap.size + 1) 30 #[.int .i64 0, .int .i64 0, .int .i64 0, .int .i64 0, .int .i64 0, .int .i64 0, .int .i64 0, .int .i64 0] := by have := (Box.new (w.alloc (.cells #[.int .i64 x0, .int .i64 x1, .int .i64 x2, .int .i64 x3, .int .i64 x4, .int .i64 x5, .int .i64 x6, .int .i64 x7] 30)) 30 #[.int .i64 0, .int .i64 0, .int .i64 0, .int .i64 0, .int .i64 0, .int .i64 0, .int .i64 0, .int .i64 0]).below hb1; simpa using this
          have c1 := bx.cell; have f1 := bx.frozen; have l1 := bx.lt; have c2 := bz.cell; have f2 := bz.frozen; have l2 := bz.lt
          go_wp2_with (first | (go_at_call 97; refine (register_any _ _).mono ?_; rintro e w' ⟨rfl, rfl⟩) | (go_at_call 85; refine (mIs_any _ _).mono ?_; rintro e w' ⟨rfl, rfl⟩) | (go_at_call 98; refine (pair_any _ _ _ kx hm).mono ?_; rintro e w2 ⟨rfl, rfl⟩))
          refine bodyPost_ret (v := .tuple #[.agg #[.int .i64 x0, .int .i64 (pairM x1 m), .int .i64 x2, .int .i64 x3, .int .i64 x4, .int .i64 x5, .int .i64 x6, .int .i64 x7], errV 0]) (ret_cell_tmp Tryz.results77 rfl ((bz.far (by simp) _).fill8 _ _ _ _ _ _ _ _) Tryz.underlying30 rfl (by kernel_rfl)) rfl ?_
          exact ⟨x0, (pairM x1 m), x2, x3, x4, x5, x6, x7, HP.out, by rw [HY.out.2], (by repeat (first | (with_reducible exact grow_refl _) | (with_reducible assumption) | (with_reducible refine grow_alloc ?_ _) | (with_reducible refine grow_set ?_ (by first | exact Nat.le_refl _ | (simp; done) | (simp; omega) | omega) _) | (with_reducible refine grow_drewN ?_ _) | (with_reducible refine grow_drew ?_) | (with_reducible refine grow_step ?_ (by assumption)) | (with_reducible refine grow_base ?_ (by assumption))))⟩
        · have kx : okM x2 = true := all_at HB.out 2 (by simp)
          have HP : Hid ([x0, x1, pairM x2 m, x3, x4, x5, x6, x7] = extB [x0, x1, x2, x3, x4, x5, x6, x7] 2 m) := Lib.hid (by rw [HY.out.1]; rfl)
          go_enter Tryz.func77, Tryz.ntmps77
          go_wp2_with fail
          refine (bankCheck_any x0 x1 x2 x3 x4 x5 x6 x7 _).mono ?_
          rintro e w1 ⟨rfl, hb1⟩
          rw [e2]
          have bx : Box w1 w.heap.size 30 #[.int .i64 x0, .int .i64 x1, .int .i64 x2, .int .i64 x3, .int .i64 x4, .int .i64 x5, .int .i64 x6, .int .i64 x7] := ((Box.new _ _ _).below (grow_alloc (grow_refl _) _)).below hb1
          have bz : Box w1 (w.heap.size + 1) 30 #[.int .i64 0, .int .i64 0, .int .i64 0, .int .i64 0, .int .i64 0, .int .i64 0, .int .i64 0, .int .i64 0] := by have := (Box.new (w.alloc (.cells #[.int .i64 x0, .int .i64 x1, .int .i64 x2, .int .i64 x3, .int .i64 x4, .int .i64 x5, .int .i64 x6, .int .i64 x7] 30)) 30 #[.int .i64 0, .int .i64 0, .int .i64 0, .int .i64 0, .int .i64 0, .int .i64 0, .int .i64 0, .int .i64 0]).below hb1; simpa using this
          have c1 := bx.cell; have f1 := bx.frozen; have l1 := bx.lt; have c2 := bz.cell; have f2 := bz.frozen; have l2 := bz.lt
          go_wp2_with (first | (go_at_call 97; refine (register_any _ _).mono ?_; rintro e w' ⟨rfl, rfl⟩) | (go_at_call 85; refine (mIs_any _ _).mono ?_; rintro e w' ⟨rfl, rfl⟩) | (go_at_call 98; refine (pair_any _ _ _ kx hm).mono ?_; rintro e w2 ⟨rfl, rfl⟩))
          refine bodyPost_ret (v := .tuple #[.agg #[.int .i64 x0, .int .i64 x1, .int .i64 (pairM x2 m), .int .i64 x3, .int .i64 x4, .int .i64 x5, .int .i64 x6, .int .i64 x7], errV 0]) (ret_cell_tmp Tryz.results77 rfl ((bz.far (by simp) _).fill8 _ _ _ _ _ _ _ _) Tryz.underlying30 rfl (by kernel_rfl)) rfl ?_
          exact ⟨x0, x1, (pairM x2 m), x3, x4, x5, x6, x7, HP.out, by rw [HY.out.2], (by repeat (first | (with_reducible exact grow_refl _) | (with_reducible assumption) | (with_reducible refine grow_alloc ?_ _) | (with_reducible refine grow_set ?_ (by first | exact Nat.le_refl _ | (simp; done) | (simp; omega) | omega) _) | (with_reducible refine grow_drewN ?_ _) | (with_reducible refine grow_drew ?_) | (with_reducible refine grow_step ?_ (by assumption)) | (with_reducible refine grow_base ?_ (by assumption))))⟩
        · have kx : okM x3 = true := all_at HB.out 3 (by simp)
          have HP : Hid ([x0, x1, x2, pairM x3 m, x4, x5, x6, x7] = extB [x0, x1, x2, x3, x4, x5, x6, x7] 3 m) := Lib.hid (by rw [HY.out.1]; rfl)
          go_enter Tryz.func77, Tryz.ntmps77
          go_wp2_with fail
          refine (bankCheck_any x0 x1 x2 x3 x4 x5 x6 x7 _).mono ?_
          rintro e w1 ⟨rfl, hb1⟩
          rw [e2]
          have bx : Box w1 w.heap.size 30 #[.int .i64 x0, .int .i64 x1, .int .i64 x2, .int .i64 x3, .int .i64 x4, .int .i64 x5, .int .i64 x6, .int .i64 x7] := ((Box.new _ _ _).below (grow_alloc (grow_refl _) _)).below hb1
          have bz : Box w1 (w.heap.size + 1) 30 #[.int .i64 0, .int .i64 0, .int .i64 0, .int .i64 0, .int .i64 0, .int .i64 0, .int .i64 0, .int .i64 0] := by have := (Box.new (w.alloc (.cells #[.int .i64 x0, .int .i64 x1, .int .i64 x2, .int .i64 x3, .int .i64 x4, .int .i64 x5, .int .i64 x6, .int .i64 x7] 30)) 30 #[.int .i64 0, .int .i64 0, .int .i64 0, .int .i64 0, .int .i64 0, .int .i64 0, .int .i64 0, .int .i64 0]).below hb1; simpa using this
          have c1 := bx.cell; have f1 := bx.frozen; have l1 := bx.lt; have c2 := bz.cell; have f2 := bz.frozen; have l2 := bz.lt
          go_wp2_with (first | (go_at_call 97; refine (register_any _ _).mono ?_; rintro e w' ⟨rfl, rfl⟩) | (go_at_call 85; refine (mIs_any _ _).mono ?_; rintro e w' ⟨rfl, rfl⟩) | (go_at_call 98; refine (pair_any _ _ _ kx hm).mono ?_; rintro e w2 ⟨rfl, rfl⟩))
          refine bodyPost_ret (v := .tuple #[.agg #[.int .i64 x0, .int .i64 x1, .int .i64 x2, .int .i64 (pairM x3 m), .int .i64 x4, .int .i64 x5, .int .i64 x6, .int .i64 x7], errV 0]) (ret_cell_tmp Tryz.results77 rfl ((bz.far (by simp) _).fill8 _ _ _ _ _ _ _ _) Tryz.underlying30 rfl (by kernel_rfl)) rfl ?_
          exact ⟨x0, x1, x2, (pairM x3 m), x4, x5, x6, x7, HP.out, by rw [HY.out.2], (by repeat (first | (with_reducible exact grow_refl _) | (with_reducible assumption) | (with_reducible refine grow_alloc ?_ _) | (with_reducible refine grow_set ?_ (by first | exact Nat.le_refl _ | (simp; done) | (simp; omega) | omega) _) | (with_reducible refine grow_drewN ?_ _) | (with_reducible refine grow_drew ?_) | (with_reducible refine grow_step ?_ (by assumption)) | (with_reducible refine grow_base ?_ (by assumption))))⟩
        · have kx : okM x4 = true := all_at HB.out 4 (by simp)
          have HP : Hid ([x0, x1, x2, x3, pairM x4 m, x5, x6, x7] = extB [x0, x1, x2, x3, x4, x5, x6, x7] 4 m) := Lib.hid (by rw [HY.out.1]; rfl)
          go_enter Tryz.func77, Tryz.ntmps77
          go_wp2_with fail
          refine (bankCheck_any x0 x1 x2 x3 x4 x5 x6 x7 _).mono ?_
          rintro e w1 ⟨rfl, hb1⟩
          rw [e2]
          have bx : Box w1 w.heap.size 30 #[.int .i64 x0, .int .i64 x1, .int .i64 x2, .int .i64 x3, .int .i64 x4, .int .i64 x5, .int .i64 x6, .int .i64 x7] := ((Box.new _ _ _).below (grow_alloc (grow_refl _) _)).below hb1
          have bz : Box w1 (w.heap.size + 1) 30 #[.int .i64 0, .int .i64 0, .int .i64 0, .int .i64 0, .int .i64 0, .int .i64 0, .int .i64 0, .int .i64 0] := by have := (Box.new (w.alloc (.cells #[.int .i64 x0, .int .i64 x1, .int .i64 x2, .int .i64 x3, .int .i64 x4, .int .i64 x5, .int .i64 x6, .int .i64 x7] 30)) 30 #[.int .i64 0, .int .i64 0, .int .i64 0, .int .i64 0, .int .i64 0, .int .i64 0, .int .i64 0, .int .i64 0]).below hb1; simpa using this
          have c1 := bx.cell; have f1 := bx.frozen; have l1 := bx.lt; have c2 := bz.cell; have f2 := bz.frozen; have l2 := bz.lt
          go_wp2_with (first | (go_at_call 97; refine (register_any _ _).mono ?_; rintro e w' ⟨rfl, rfl⟩) | (go_at_call 85; refine (mIs_any _ _).mono ?_; rintro e w' ⟨rfl, rfl⟩) | (go_at_call 98; refine (pair_any _ _ _ kx hm).mono ?_; rintro e w2 ⟨rfl, rfl⟩))
          refine bodyPost_ret (v := .tuple #[.agg #[.int .i64 x0, .int .i64 x1, .int .i64 x2, .int .i64 x3, .int .i64 (pairM x4 m), .int .i64 x5, .int .i64 x6, .int .i64 x7], errV 0]) (ret_cell_tmp Tryz.results77 rfl ((bz.far (by simp) _).fill8 _ _ _ _ _ _ _ _) Tryz.underlying30 rfl (by kernel_rfl)) rfl ?_
          exact ⟨x0, x1, x2, x3, (pairM x4 m), x5, x6, x7, HP.out, by rw [HY.out.2], (by repeat (first | (with_reducible exact grow_refl _) | (with_reducible assumption) | (with_reducible refine grow_alloc ?_ _) | (with_reducible refine grow_set ?_ (by first | exact Nat.le_refl _ | (simp; done) | (simp; omega) | omega) _) | (with_reducible refine grow_drewN ?_ _) | (with_reducible refine grow_drew ?_) | (with_reducible refine grow_step ?_ (by assumption)) | (with_reducible refine grow_base ?_ (by assumption))))⟩
        · have kx : okM x5 = true := all_at HB.out 5 (by simp)
          have HP : Hid ([x0, x1, x2, x3, x4, pairM x5 m, x6, x7] = extB [x0, x1, x2, x3, x4, x5, x6, x7] 5 m) := Lib.hid (by rw [HY.out.1]; rfl)
          go_enter Tryz.func77, Tryz.ntmps77
          go_wp2_with fail
          refine (bankCheck_any x0 x1 x2 x3 x4 x5 x6 x7 _).mono ?_
          rintro e w1 ⟨rfl, hb1⟩
          rw [e2]
          have bx : Box w1 w.heap.size 30 #[.int .i64 x0, .int .i64 x1, .int .i64 x2, .int .i64 x3, .int .i64 x4, .int .i64 x5, .int .i64 x6, .int .i64 x7] := ((Box.new _ _ _).below (grow_alloc (grow_refl _) _)).below hb1
          have bz : Box w1 (w.heap.size + 1) 30 #[.int .i64 0, .int .i64 0, .int .i64 0, .int .i64 0, .int .i64 0, .int .i64 0, .int .i64 0, .int .i64 0] := by have := (Box.new (w.alloc (.cells #[.int .i64 x0, .int .i64 x1, .int .i64 x2, .int .i64 x3, .int .i64 x4, .int .i64 x5, .int .i64 x6, .int .i64 x7] 30)) 30 #[.int .i64 0, .int .i64 0, .int .i64 0, .int .i64 0, .int .i64 0, .int .i64 0, .int .i64 0, .int .i64 0]).below hb1; simpa using this
          have c1 := bx.cell; have f1 := bx.frozen; have l1 := bx.lt; have c2 := bz.cell; have f2 := bz.frozen; have l2 := bz.lt
          go_wp2_with (first | (go_at_call 97; refine (register_any _ _).mono ?_; rintro e w' ⟨rfl, rfl⟩) | (go_at_call 85; refine (mIs_any _ _).mono ?_; rintro e w' ⟨rfl, rfl⟩) | (go_at_call 98; refine (pair_any _ _ _ kx hm).mono ?_; rintro e w2 ⟨rfl, rfl⟩))
          refine bodyPost_ret (v := .tuple #[.agg #[.int .i64 x0, .int .i64 x1, .int .i64 x2, .int .i64 x3, .int .i64 x4, .int .i64 (pairM x5 m), .int .i64 x6, .int .i64 x7], errV 0]) (ret_cell_tmp Tryz.results77 rfl ((bz.far (by simp) _).fill8 _ _ _ _ _ _ _ _) Tryz.underlying30 rfl (by kernel_rfl)) rfl ?_
          exact ⟨x0, x1, x2, x3, x4, (pairM x5 m), x6, x7, HP.out, by rw [HY.out.2], (by repeat (first | (with_reducible exact grow_refl _) | (with_reducible assumption) | (with_reducible refine grow_alloc ?_ _) | (with_reducible refine grow_set ?_ (by first | exact Nat.le_refl _ | (simp; done) | (simp; omega) | omega) _) | (with_reducible refine grow_drewN ?_ _) | (with_reducible refine grow_drew ?_) | (with_reducible refine grow_step ?_ (by assumption)) | (with_reducible refine grow_base ?_ (by assumption))))⟩
        · have kx : okM x6 = true := all_at HB.out 6 (by simp)
          have HP : Hid ([x0, x1, x2, x3, x4, x5, pairM x6 m, x7] = extB [x0, x1, x2, x3, x4, x5, x6, x7] 6 m) := Lib.hid (by rw [HY.out.1]; rfl)
          go_enter Tryz.func77, Tryz.ntmps77
          go_wp2_with fail
          refine (bankCheck_any x0 x1 x2 x3 x4 x5 x6 x7 _).mono ?_
          rintro e w1 ⟨rfl, hb1⟩
          rw [e2]
          have bx : Box w1 w.heap.size 30 #[.int .i64 x0, .int .i64 x1, .int .i64 x2, .int .i64 x3, .int .i64 x4, .int .i64 x5, .int .i64 x6, .int .i64 x7] := ((Box.new _ _ _).below (grow_alloc (grow_refl _) _)).below hb1
          have bz : Box w1 (w.heap.size + 1) 30 #[.int .i64 0, .int .i64 0, .int .i64 0, .int .i64 0, .int .i64 0, .int .i64 0, .int .i64 0, .int .i64 0] := by have := (Box.new (w.alloc (.cells #[.int .i64 x0, .int .i64 x1, .int .i64 x2, .int .i64 x3, .int .i64 x4, .int .i64 x5, .int .i64 x6, .int .i64 x7] 30)) 30 #[.int .i64 0, .int .i64 0, .int .i64 0, .int .i64 0, .int .i64 0, .int .i64 0, .int .i64 0, .int .i64 0]).below hb1; simpa using this
          have c1 := bx.cell; have f1 := bx.frozen; have l1 := bx.lt; have c2 := bz.cell; have f2 := bz.frozen; have l2 := bz.lt
          go_wp2_with (first | (go_at_call 97; refine (register_any _ _).mono ?_; rintro e w' ⟨rfl, rfl⟩) | (go_at_call 85; refine (mIs_any _ _).mono ?_; rintro e w' ⟨rfl, rfl⟩) | (go_at_call 98; refine (pair_any _ _ _ kx hm).mono ?_; rintro e w2 ⟨rfl, rfl⟩))
          refine bodyPost_ret (v := .tuple #[.agg #[.int .i64 x0, .int .i64 x1, .int .i64 x2, .int .i64 x3, .int .i64 x4, .int .i64 x5, .int .i64 (pairM x6 m), .int .i64 x7], errV 0]) (ret_cell_tmp Tryz.results77 rfl ((bz.far (by simp) _).fill8 _ _ _ _ _ _ _ _) Tryz.underlying30 rfl (by kernel_rfl)) rfl ?_
          exact ⟨x0, x1, x2, x3, x4, x5, (pairM x6 m), x7, HP.out, by rw [HY.out.2], (by repeat (first | (with_reducible exact grow_refl _) | (with_reducible assumption) | (with_reducible refine grow_alloc ?_ _) | (with_reducible refine grow_set ?_ (by first | exact Nat.le_refl _ | (simp; done) | (simp; omega) | omega) _) | (with_reducible refine grow_drewN ?_ _) | (with_reducible refine grow_drew ?_) | (with_reducible refine grow_step ?_ (by assumption)) | (with_reducible refine grow_base ?_ (by assumption))))⟩
        · have kx : okM x7 = true := all_at HB.out 7 (by simp)
          have HP : Hid ([x0, x1, x2, x3, x4, x5, x6, pairM x7 m] = extB [x0, x1, x2, x3, x4, x5, x6, x7] 7 m) := Lib.hid (by rw [HY.out.1]; rfl)
          go_enter Tryz.func77, Tryz.ntmps77
          go_wp2_with fail
          refine (bankCheck_any x0 x1 x2 x3 x4 x5 x6 x7 _).mono ?_
          rintro e w1 ⟨rfl, hb1⟩
          rw [e2]
          have bx : Box w1 w.heap.size 30 #[.int .i64 x0, .int .i64 x1, .int .i64 x2, .int .i64 x3, .int .i64 x4, .int .i64 x5, .int .i64 x6, .int .i64 x7] := ((Box.new _ _ _).below (grow_alloc (grow_refl _) _)).below hb1
          have bz : Box w1 (w.heap.size + 1) 30 #[.int .i64 0, .int .i64 0, .int .i64 0, .int .i64 0, .int .i64 0, .int .i64 0, .int .i64 0, .int .i64 0] := by have := (Box.new (w.alloc (.cells #[.int .i64 x0, .int .i64 x1, .int .i64 x2, .int .i64 x3, .int .i64 x4, .int .i64 x5, .int .i64 x6, .int .i64 x7] 30)) 30 #[.int .i64 0, .int .i64 0, .int .i64 0, .int .i64 0, .int .i64 0, .int .i64 0, .int .i64 0, .int .i64 0]).below hb1; simpa using this
          have c1 := bx.cell; have f1 := bx.frozen; have l1 := bx.lt; have c2 := bz.cell; have f2 := bz.frozen; have l2 := bz.lt
          go_wp2_with (first | (go_at_call 97; refine (register_any _ _).mono ?_; rintro e w' ⟨rfl, rfl⟩) | (go_at_call 85; refine (mIs_any _ _).mono ?_; rintro e w' ⟨rfl, rfl⟩) | (go_at_call 98; refine (pair_any _ _ _ kx hm).mono ?_; rintro e w2 ⟨rfl, rfl⟩))
          refine bodyPost_ret (v := .tuple #[.agg #[.int .i64 x0, .int .i64 x1, .int .i64 x2, .int .i64 x3, .int .i64 x4, .int .i64 x5, .int .i64 x6, .int .i64 (pairM x7 m)], errV 0]) (ret_cell_tmp Tryz.results77 rfl ((bz.far (by simp) _).fill8 _ _ _ _ _ _ _ _) Tryz.underlying30 rfl (by kernel_rfl)) rfl ?_
          exact ⟨x0, x1, x2, x3, x4, x5, x6, (pairM x7 m), HP.out, by rw [HY.out.2], (by repeat (first | (with_reducible exact grow_refl _) | (with_reducible assumption) | (with_reducible refine grow_alloc ?_ _) | (with_reducible refine grow_set ?_ (by first | exact Nat.le_refl _ | (simp; done) | (simp; omega) | omega) _) | (with_reducible refine grow_drewN ?_ _) | (with_reducible refine grow_drew ?_) | (with_reducible refine grow_step ?_ (by assumption)) | (with_reducible refine grow_base ?_ (by assumption))))⟩

end Go.Proofs.YtegiffdlfpdbkaaGreatDoor
