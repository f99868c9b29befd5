/- EventNone: of no event the bank is all noughts. -/
import Derived.Test.YtebecndmlgolpaaRows
import Derived.Test.YtebecndmlgolpaaOpen
import Derived.Test.YtebecndmlgolpaaMatch
import Derived.Test.YtebecndmlgolpaaEvent2
import Derived.Test.YtebecndmlgolpaaEq8
import Derived.WalkKit
import Derived.Lib.Hide
namespace Go.Proofs.Ytebecndmlgolpaa
open Go.ChangeShapes Go.WideShapes Go.ChangeAt Go.RowKit
set_option linter.unusedVariables false
set_option maxRecDepth 100000

theorem evs1 (w : World) (t : TypeId) (X : Array Value) : EvsAt ((w.alloc (.cells X t)).alloc (.cells #[.int .i64 (-1), .int .i64 0] 40)) (some ⟨w.heap.size + 1, 0, none⟩) [(-1, 0)] := fun i hi => by
  have b := Box.new (w.alloc (.cells X t)) 40 #[.int .i64 (-1), .int .i64 0]
  have e : (w.alloc (.cells X t)).heap.size = w.heap.size + 1 := by simp
  rw [e] at b
  have : i = 0 := by simp at hi; omega
  subst this
  exact ⟨w.heap.size + 1, 0, rfl, b.lt, b.cell 0, b.cell 1⟩
theorem ev_nil : evE [] = 0 ∧ repB [] = [0, 0, 0, 0, 0, 0, 0, 0] ∧ evE [(-1, 0)] = 1 := by decide
theorem mat_nil (b : List Int) (m : Int) : matE [] b m = sameE [0, 0, 0, 0, 0, 0, 0, 0] b m ∧ matB [] b m = sameB [0, 0, 0, 0, 0, 0, 0, 0] b m := by
  unfold matE matB
  rw [if_pos ev_nil.1, decide_eq_true ev_nil.1]
  exact ⟨rfl, rfl⟩
theorem same_nil {b : List Int} {m : Int} (h : sameE [0, 0, 0, 0, 0, 0, 0, 0] b m ≠ 0) (hb : b.all okM = true) : m < 0 ∨ 255 < m := by
  unfold sameE at h
  rw [hb] at h
  cases hm : okMask m
  · exact okMask_no hm
  · rw [hm] at h; exact absurd rfl h

set_option maxHeartbeats 1000000 in
theorem eventNone_walk (w : World) (x0 x1 x2 x3 x4 x5 x6 x7 : Int) (m : Int) (_i : I64 m) :
    Calls Try.prog 4 #[.agg #[.int .i64 x0, .int .i64 x1, .int .i64 x2, .int .i64 x3, .int .i64 x4, .int .i64 x5, .int .i64 x6, .int .i64 x7], .int .i64 m] w fun e w' => e = .returned (.bool true) ∧ Below w.heap.size w w' := by
  have en := fun k w => err_neq k w
  have ee := fun k w => err_eql k w
  have gn := fun o k w => err_guard_neq o k w
  have ge := fun o k w => err_guard_eql o k w
  have HN := Lib.hid ev_nil
  have rq := fun w => run_eq8_eql 0 0 0 0 0 0 0 0 0 0 0 0 0 0 0 0 w
  have rg := fun o p w => run_eq8_guard 0 0 0 0 0 0 0 0 0 0 0 0 0 0 0 0 .eql o p w
  obtain ⟨HM1, HM2⟩ := mat_nil [x0, x1, x2, x3, x4, x5, x6, x7] m
  by_cases h0 : sameE [0, 0, 0, 0, 0, 0, 0, 0] [x0, x1, x2, x3, x4, x5, x6, x7] m = 0
  · rw [h0] at HM1
    have H0 := Lib.hid h0
    have HM1 := Lib.hid HM1
    have HM2 := Lib.hid HM2
    clear h0
    go_enter Try.func4, Try.ntmps4
    go_wp2_with fail
    refine (evCheck_any _ 1 [(-1, 0)] _ (evs1 w _ _) (by simp)).mono ?_
    rintro e w1 ⟨rfl, hb1⟩
    rw [HN.out.2.2]
    have bx : Box w1 w.heap.size 37 #[.int .i64 x0, .int .i64 x1, .int .i64 x2, .int .i64 x3, .int .i64 x4, .int .i64 x5, .int .i64 x6, .int .i64 x7] := ((Box.new _ _ _).alloc_ _).below hb1
    have cx := bx.cell; have lx := bx.lt
    go_wp2_with fail
    refine (replay_any none 0 [] _ (EvsAt.nil_ _ _) (by simp)).mono ?_
    rintro e w2 ⟨y0, y1, y2, y3, y4, y5, y6, y7, hy, rfl, hb2⟩
    rw [HN.out.2.1] at hy
    simp only [List.cons.injEq, and_true] at hy
    obtain ⟨rfl, rfl, rfl, rfl, rfl, rfl, rfl, rfl⟩ := hy
    rw [HN.out.1]
    have bx2 := bx.below hb2
    have cx2 := bx2.cell; have lx2 := bx2.lt
    go_wp2_with fail
    refine (match_any none 0 [] x0 x1 x2 x3 x4 x5 x6 x7 m _ (EvsAt.nil_ _ _) (by simp)).mono ?_
    rintro e w3 ⟨rfl, hb3⟩
    rw [HM1.out, HM2.out]
    have bx3 := ((bx2.alloc_ (.cells #[.int .i64 0, .int .i64 0, .int .i64 0, .int .i64 0, .int .i64 0, .int .i64 0, .int .i64 0, .int .i64 0] 37)).alloc_ (.cells #[.int .i64 0, .int .i64 0, .int .i64 0, .int .i64 0, .int .i64 0, .int .i64 0, .int .i64 0, .int .i64 0] 37)).below hb3
    have bz3 := ((Box.new w2 37 #[.int .i64 0, .int .i64 0, .int .i64 0, .int .i64 0, .int .i64 0, .int .i64 0, .int .i64 0, .int .i64 0]).alloc_ (.cells #[.int .i64 0, .int .i64 0, .int .i64 0, .int .i64 0, .int .i64 0, .int .i64 0, .int .i64 0, .int .i64 0] 37)).below hb3
    have bn3 : Box w3 (w2.heap.size + 1) 37 #[.int .i64 0, .int .i64 0, .int .i64 0, .int .i64 0, .int .i64 0, .int .i64 0, .int .i64 0, .int .i64 0] := by
      have := (Box.new (w2.alloc (.cells #[.int .i64 0, .int .i64 0, .int .i64 0, .int .i64 0, .int .i64 0, .int .i64 0, .int .i64 0, .int .i64 0] 37)) 37 #[.int .i64 0, .int .i64 0, .int .i64 0, .int .i64 0, .int .i64 0, .int .i64 0, .int .i64 0, .int .i64 0]).below hb3
      simpa using this
    have cx3 := bx3.cell; have lx3 := bx3.lt
    have cz3 := bz3.cell; have lz3 := bz3.lt
    have cn3 := bn3.cell; have ln3 := bn3.lt
    go_wp2_with fail
    refine (same_any 0 0 0 0 0 0 0 0 x0 x1 x2 x3 x4 x5 x6 x7 m _).mono ?_
    rintro e w4 ⟨rfl, hb4⟩
    rw [H0.out]
    have cz4 := (bz3.below hb4).cell
    have cn4 := (bn3.below hb4).cell
    obtain ⟨B, hB⟩ : ∃ B, sameB [0, 0, 0, 0, 0, 0, 0, 0] [x0, x1, x2, x3, x4, x5, x6, x7] m = B := ⟨_, rfl⟩
    rw [hB]
    clear hB
    go_wp2_with fail
    go_ret
    exact ⟨bool_lit (by simp), (by repeat (first | (with_reducible exact grow_refl _) | (with_reducible assumption) | (with_reducible refine grow_alloc ?_ _) | (with_reducible refine grow_set ?_ (by first | exact Nat.le_refl _ | (simp; done) | (simp; omega) | omega) _) | (with_reducible refine grow_drewN ?_ _) | (with_reducible refine grow_drew ?_) | (with_reducible refine grow_step ?_ (by assumption)) | (with_reducible refine grow_base ?_ (by assumption))))⟩
  · obtain ⟨E, hE⟩ : ∃ E, sameE [0, 0, 0, 0, 0, 0, 0, 0] [x0, x1, x2, x3, x4, x5, x6, x7] m = E := ⟨_, rfl⟩
    rw [hE] at HM1
    have t : (E != 0) = true := by rw [← hE]; simpa using h0
    cases hx : ([x0, x1, x2, x3, x4, x5, x6, x7]).all okM
    · have e2 := bankE_no hx
      have HM1 := Lib.hid HM1
      have HM2 := Lib.hid HM2
      clear hx h0 hE
      go_enter Try.func4, Try.ntmps4
      go_wp2_with fail
      refine (evCheck_any _ 1 [(-1, 0)] _ (evs1 w _ _) (by simp)).mono ?_
      rintro e w1 ⟨rfl, hb1⟩
      rw [HN.out.2.2]
      have bx : Box w1 w.heap.size 37 #[.int .i64 x0, .int .i64 x1, .int .i64 x2, .int .i64 x3, .int .i64 x4, .int .i64 x5, .int .i64 x6, .int .i64 x7] := ((Box.new _ _ _).alloc_ _).below hb1
      have cx := bx.cell; have lx := bx.lt
      go_wp2_with fail
      refine (replay_any none 0 [] _ (EvsAt.nil_ _ _) (by simp)).mono ?_
      rintro e w2 ⟨y0, y1, y2, y3, y4, y5, y6, y7, hy, rfl, hb2⟩
      rw [HN.out.2.1] at hy
      simp only [List.cons.injEq, and_true] at hy
      obtain ⟨rfl, rfl, rfl, rfl, rfl, rfl, rfl, rfl⟩ := hy
      rw [HN.out.1]
      have bx2 := bx.below hb2
      have cx2 := bx2.cell; have lx2 := bx2.lt
      go_wp2_with fail
      refine (match_any none 0 [] x0 x1 x2 x3 x4 x5 x6 x7 m _ (EvsAt.nil_ _ _) (by simp)).mono ?_
      rintro e w3 ⟨rfl, hb3⟩
      rw [HM1.out, HM2.out]
      have bx3 := ((bx2.alloc_ (.cells #[.int .i64 0, .int .i64 0, .int .i64 0, .int .i64 0, .int .i64 0, .int .i64 0, .int .i64 0, .int .i64 0] 37)).alloc_ (.cells #[.int .i64 0, .int .i64 0, .int .i64 0, .int .i64 0, .int .i64 0, .int .i64 0, .int .i64 0, .int .i64 0] 37)).below hb3
      have bz3 := ((Box.new w2 37 #[.int .i64 0, .int .i64 0, .int .i64 0, .int .i64 0, .int .i64 0, .int .i64 0, .int .i64 0, .int .i64 0]).alloc_ (.cells #[.int .i64 0, .int .i64 0, .int .i64 0, .int .i64 0, .int .i64 0, .int .i64 0, .int .i64 0, .int .i64 0] 37)).below hb3
      have bn3 : Box w3 (w2.heap.size + 1) 37 #[.int .i64 0, .int .i64 0, .int .i64 0, .int .i64 0, .int .i64 0, .int .i64 0, .int .i64 0, .int .i64 0] := by
        have := (Box.new (w2.alloc (.cells #[.int .i64 0, .int .i64 0, .int .i64 0, .int .i64 0, .int .i64 0, .int .i64 0, .int .i64 0, .int .i64 0] 37)) 37 #[.int .i64 0, .int .i64 0, .int .i64 0, .int .i64 0, .int .i64 0, .int .i64 0, .int .i64 0, .int .i64 0]).below hb3
        simpa using this
      have cx3 := bx3.cell; have lx3 := bx3.lt
      have cz3 := bz3.cell; have lz3 := bz3.lt
      have cn3 := bn3.cell; have ln3 := bn3.lt
      go_wp2_with fail
      refine (bankCheck_any x0 x1 x2 x3 x4 x5 x6 x7 _).mono ?_
      rintro e w4 ⟨rfl, hb4⟩
      rw [e2]
      go_wp2_with fail
      go_ret
      exact ⟨rfl, (by repeat (first | (with_reducible exact grow_refl _) | (with_reducible assumption) | (with_reducible refine grow_alloc ?_ _) | (with_reducible refine grow_set ?_ (by first | exact Nat.le_refl _ | (simp; done) | (simp; omega) | omega) _) | (with_reducible refine grow_drewN ?_ _) | (with_reducible refine grow_drew ?_) | (with_reducible refine grow_step ?_ (by assumption)) | (with_reducible refine grow_base ?_ (by assumption))))⟩
    · have e2 := bankE_yes hx
      have hm := same_nil h0 hx
      have HM1 := Lib.hid HM1
      have HM2 := Lib.hid HM2
      clear hx h0 hE
      rcases hm with hm | hm
      · go_enter Try.func4, Try.ntmps4
        go_wp2_with fail
        refine (evCheck_any _ 1 [(-1, 0)] _ (evs1 w _ _) (by simp)).mono ?_
        rintro e w1 ⟨rfl, hb1⟩
        rw [HN.out.2.2]
        have bx : Box w1 w.heap.size 37 #[.int .i64 x0, .int .i64 x1, .int .i64 x2, .int .i64 x3, .int .i64 x4, .int .i64 x5, .int .i64 x6, .int .i64 x7] := ((Box.new _ _ _).alloc_ _).below hb1
        have cx := bx.cell; have lx := bx.lt
        go_wp2_with fail
        refine (replay_any none 0 [] _ (EvsAt.nil_ _ _) (by simp)).mono ?_
        rintro e w2 ⟨y0, y1, y2, y3, y4, y5, y6, y7, hy, rfl, hb2⟩
        rw [HN.out.2.1] at hy
        simp only [List.cons.injEq, and_true] at hy
        obtain ⟨rfl, rfl, rfl, rfl, rfl, rfl, rfl, rfl⟩ := hy
        rw [HN.out.1]
        have bx2 := bx.below hb2
        have cx2 := bx2.cell; have lx2 := bx2.lt
        go_wp2_with fail
        refine (match_any none 0 [] x0 x1 x2 x3 x4 x5 x6 x7 m _ (EvsAt.nil_ _ _) (by simp)).mono ?_
        rintro e w3 ⟨rfl, hb3⟩
        rw [HM1.out, HM2.out]
        have bx3 := ((bx2.alloc_ (.cells #[.int .i64 0, .int .i64 0, .int .i64 0, .int .i64 0, .int .i64 0, .int .i64 0, .int .i64 0, .int .i64 0] 37)).alloc_ (.cells #[.int .i64 0, .int .i64 0, .int .i64 0, .int .i64 0, .int .i64 0, .int .i64 0, .int .i64 0, .int .i64 0] 37)).below hb3
        have bz3 := ((Box.new w2 37 #[.int .i64 0, .int .i64 0, .int .i64 0, .int .i64 0, .int .i64 0, .int .i64 0, .int .i64 0, .int .i64 0]).alloc_ (.cells #[.int .i64 0, .int .i64 0, .int .i64 0, .int .i64 0, .int .i64 0, .int .i64 0, .int .i64 0, .int .i64 0] 37)).below hb3
        have bn3 : Box w3 (w2.heap.size + 1) 37 #[.int .i64 0, .int .i64 0, .int .i64 0, .int .i64 0, .int .i64 0, .int .i64 0, .int .i64 0, .int .i64 0] := by
          have := (Box.new (w2.alloc (.cells #[.int .i64 0, .int .i64 0, .int .i64 0, .int .i64 0, .int .i64 0, .int .i64 0, .int .i64 0, .int .i64 0] 37)) 37 #[.int .i64 0, .int .i64 0, .int .i64 0, .int .i64 0, .int .i64 0, .int .i64 0, .int .i64 0, .int .i64 0]).below hb3
          simpa using this
        have cx3 := bx3.cell; have lx3 := bx3.lt
        have cz3 := bz3.cell; have lz3 := bz3.lt
        have cn3 := bn3.cell; have ln3 := bn3.lt
        go_wp2_with fail
        refine (bankCheck_any x0 x1 x2 x3 x4 x5 x6 x7 _).mono ?_
        rintro e w4 ⟨rfl, hb4⟩
        rw [e2]
        go_wp2_with fail
        go_ret
        exact ⟨rfl, (by repeat (first | (with_reducible exact grow_refl _) | (with_reducible assumption) | (with_reducible refine grow_alloc ?_ _) | (with_reducible refine grow_set ?_ (by first | exact Nat.le_refl _ | (simp; done) | (simp; omega) | omega) _) | (with_reducible refine grow_drewN ?_ _) | (with_reducible refine grow_drew ?_) | (with_reducible refine grow_step ?_ (by assumption)) | (with_reducible refine grow_base ?_ (by assumption))))⟩
      · go_enter Try.func4, Try.ntmps4
        go_wp2_with fail
        refine (evCheck_any _ 1 [(-1, 0)] _ (evs1 w _ _) (by simp)).mono ?_
        rintro e w1 ⟨rfl, hb1⟩
        rw [HN.out.2.2]
        have bx : Box w1 w.heap.size 37 #[.int .i64 x0, .int .i64 x1, .int .i64 x2, .int .i64 x3, .int .i64 x4, .int .i64 x5, .int .i64 x6, .int .i64 x7] := ((Box.new _ _ _).alloc_ _).below hb1
        have cx := bx.cell; have lx := bx.lt
        go_wp2_with fail
        refine (replay_any none 0 [] _ (EvsAt.nil_ _ _) (by simp)).mono ?_
        rintro e w2 ⟨y0, y1, y2, y3, y4, y5, y6, y7, hy, rfl, hb2⟩
        rw [HN.out.2.1] at hy
        simp only [List.cons.injEq, and_true] at hy
        obtain ⟨rfl, rfl, rfl, rfl, rfl, rfl, rfl, rfl⟩ := hy
        rw [HN.out.1]
        have bx2 := bx.below hb2
        have cx2 := bx2.cell; have lx2 := bx2.lt
        go_wp2_with fail
        refine (match_any none 0 [] x0 x1 x2 x3 x4 x5 x6 x7 m _ (EvsAt.nil_ _ _) (by simp)).mono ?_
        rintro e w3 ⟨rfl, hb3⟩
        rw [HM1.out, HM2.out]
        have bx3 := ((bx2.alloc_ (.cells #[.int .i64 0, .int .i64 0, .int .i64 0, .int .i64 0, .int .i64 0, .int .i64 0, .int .i64 0, .int .i64 0] 37)).alloc_ (.cells #[.int .i64 0, .int .i64 0, .int .i64 0, .int .i64 0, .int .i64 0, .int .i64 0, .int .i64 0, .int .i64 0] 37)).below hb3
        have bz3 := ((Box.new w2 37 #[.int .i64 0, .int .i64 0, .int .i64 0, .int .i64 0, .int .i64 0, .int .i64 0, .int .i64 0, .int .i64 0]).alloc_ (.cells #[.int .i64 0, .int .i64 0, .int .i64 0, .int .i64 0, .int .i64 0, .int .i64 0, .int .i64 0, .int .i64 0] 37)).below hb3
        have bn3 : Box w3 (w2.heap.size + 1) 37 #[.int .i64 0, .int .i64 0, .int .i64 0, .int .i64 0, .int .i64 0, .int .i64 0, .int .i64 0, .int .i64 0] := by
          have := (Box.new (w2.alloc (.cells #[.int .i64 0, .int .i64 0, .int .i64 0, .int .i64 0, .int .i64 0, .int .i64 0, .int .i64 0, .int .i64 0] 37)) 37 #[.int .i64 0, .int .i64 0, .int .i64 0, .int .i64 0, .int .i64 0, .int .i64 0, .int .i64 0, .int .i64 0]).below hb3
          simpa using this
        have cx3 := bx3.cell; have lx3 := bx3.lt
        have cz3 := bz3.cell; have lz3 := bz3.lt
        have cn3 := bn3.cell; have ln3 := bn3.lt
        go_wp2_with fail
        refine (bankCheck_any x0 x1 x2 x3 x4 x5 x6 x7 _).mono ?_
        rintro e w4 ⟨rfl, hb4⟩
        rw [e2]
        go_wp2_with fail
        go_ret
        exact ⟨rfl, (by repeat (first | (with_reducible exact grow_refl _) | (with_reducible assumption) | (with_reducible refine grow_alloc ?_ _) | (with_reducible refine grow_set ?_ (by first | exact Nat.le_refl _ | (simp; done) | (simp; omega) | omega) _) | (with_reducible refine grow_drewN ?_ _) | (with_reducible refine grow_drew ?_) | (with_reducible refine grow_step ?_ (by assumption)) | (with_reducible refine grow_base ?_ (by assumption))))⟩

set_option maxRecDepth 100000 in
theorem eventNone_walks (H : Type) (enc : TypeId × Value → H) : Walks enc Try.prog 4 Try.f4 := by
  intro W base args ds p hval hA hlt hsz hsh
  have hsz0 := hsz
  rw [Try.params4] at hA hval
  obtain ⟨v0, vs0, d0, ds0, p0, q0, hargs, rfl, rfl, h0, r0⟩ := trodAll_cons hA
  obtain ⟨v1, vs1, d1, ds1, p1, q1, rfl, rfl, rfl, h1, r1⟩ := trodAll_cons r0
  obtain ⟨rfl, rfl, rfl⟩ := trodAll_nil r1
  obtain rfl : args = #[v0, v1] := by cases args; simp_all
  obtain ⟨x00, x01, x02, x03, x04, x05, x06, x07, rfl, i00, i01, i02, i03, i04, i05, i06, i07⟩ := op_bank (hval 0 37 v0 rfl rfl)
  obtain ⟨a1, rfl, w1⟩ := op_int (hval 1 3 v1 rfl rfl) h1
  exact eventNone_walk W x00 x01 x02 x03 x04 x05 x06 x07 a1 w1

set_option maxRecDepth 100000 in
theorem eventNone_lifted (os : Os) (started : os.Started) (H : Type) (enc : TypeId × Value → H) :
    ReturnsInHanded {} Try.checked os 4 .any (Rows.eventNoneSpec.pre6 enc Try.prog Try.f4 Rows.eventNoneRow.domain false) (Rows.eventNoneSpec.post enc Try.prog Try.f4 false true false false) :=
  returns_of_walk (C := Try.checked) (s := Rows.eventNoneSpec) own started (by kernel_rfl) Try.func4
    (ChangeSpec.witness6 (enc := enc) (C := Try.checked) false ⟨#[], #[.agg #[.int .i64 0, .int .i64 0, .int .i64 0, .int .i64 0, .int .i64 0, .int .i64 0, .int .i64 0, .int .i64 0], .int .i64 0], []⟩ 8 (by kernel_rfl) (by kernel_rfl) (by kernel_rfl) (by kernel_rfl))
    laidOut (by kernel_rfl) (by kernel_rfl) Try.underlying4 rfl (fun ds h => by match ds, h with | [_, _], _ => rfl) (eventNone_walks H enc)

theorem eventNone_holds : Rows.EventNoneSaid :=
  OpenClaim.holds_of_wide 4 Try.f4 rfl rfl rfl rfl rfl rfl rfl ⟨rfl, rfl, rfl, rfl, rfl⟩ rfl rfl rfl rfl rfl (by kernel_rfl) Try.func4 (by kernel_rfl)
    (of_decide_eq_true (by kernel_rfl)) (by unfold Func.isWrapper; rw [if_neg (of_decide_eq_false (by kernel_rfl))]; exact ⟨rfl, rfl⟩)
    (fun os started H enc _ => eventNone_lifted os started H enc)

end Go.Proofs.Ytebecndmlgolpaa
