/- BankNone: by no register all are alike. -/
import Derived.Test.YtfklbifgjpocnaaRows
import Derived.Test.YtfklbifgjpocnaaOpen
import Derived.Test.YtfklbifgjpocnaaBank2
import Derived.WalkKit
import Derived.Lib.Hide
namespace Go.Proofs.Ytfklbifgjpocnaa
open Go.ChangeShapes Go.WideShapes Go.ChangeAt Go.RowKit
set_option linter.unusedVariables false

set_option maxHeartbeats 1000000 in
theorem bankNone_walk (w : World) (x0 x1 x2 x3 x4 x5 x6 x7 : Int) (y0 y1 y2 y3 y4 y5 y6 y7 : Int) :
    Calls Try.prog 10 #[.agg #[.int .i64 x0, .int .i64 x1, .int .i64 x2, .int .i64 x3, .int .i64 x4, .int .i64 x5, .int .i64 x6, .int .i64 x7], .agg #[.int .i64 y0, .int .i64 y1, .int .i64 y2, .int .i64 y3, .int .i64 y4, .int .i64 y5, .int .i64 y6, .int .i64 y7]] w fun e w' => e = .returned (.bool true) ∧ Below w.heap.size w w' := by
  have en := fun k w => err_neq k w
  have ee := fun k w => err_eql k w
  have gn := fun o k w => err_guard_neq o k w
  have ge := fun o k w => err_guard_eql o k w
  cases hx : ([x0, x1, x2, x3, x4, x5, x6, x7]).all okM
  · have e1 : sameE [x0, x1, x2, x3, x4, x5, x6, x7] [y0, y1, y2, y3, y4, y5, y6, y7] 0 = 1 := by unfold sameE; rw [hx]; rfl
    have e2 := bankE_no hx
    clear hx
    go_enter Try.func10, Try.ntmps10
    go_wp2_with fail
    refine (same_any x0 x1 x2 x3 x4 x5 x6 x7 y0 y1 y2 y3 y4 y5 y6 y7 _ _).mono ?_
    rintro e w1 ⟨rfl, hb1⟩
    rw [e1]
    have b1 : Box w1 w.heap.size 50 #[.int .i64 x0, .int .i64 x1, .int .i64 x2, .int .i64 x3, .int .i64 x4, .int .i64 x5, .int .i64 x6, .int .i64 x7] := ((Box.new _ _ _).below (grow_alloc (grow_refl _) _)).below hb1
    have d1 : Box w1 (w.heap.size + 1) 50 #[.int .i64 y0, .int .i64 y1, .int .i64 y2, .int .i64 y3, .int .i64 y4, .int .i64 y5, .int .i64 y6, .int .i64 y7] := by have := (Box.new (w.alloc (.cells #[.int .i64 x0, .int .i64 x1, .int .i64 x2, .int .i64 x3, .int .i64 x4, .int .i64 x5, .int .i64 x6, .int .i64 x7] 50)) 50 #[.int .i64 y0, .int .i64 y1, .int .i64 y2, .int .i64 y3, .int .i64 y4, .int .i64 y5, .int .i64 y6, .int .i64 y7]).below hb1; simpa using this
    have c1 := b1.cell; have c1' := d1.cell
    go_wp2_with fail
    refine (bankCheck_any x0 x1 x2 x3 x4 x5 x6 x7 _).mono ?_
    rintro e w2 ⟨rfl, hb2⟩
    rw [e2]
    have c2' := (d1.below hb2).cell
    go_wp2_with fail
    go_ret
    exact ⟨rfl, (by repeat (first | (with_reducible exact grow_refl _) | (with_reducible assumption) | (with_reducible refine grow_alloc ?_ _) | (with_reducible refine grow_set ?_ (by first | exact Nat.le_refl _ | (simp; done) | (simp; omega) | omega) _) | (with_reducible refine grow_drewN ?_ _) | (with_reducible refine grow_drew ?_) | (with_reducible refine grow_step ?_ (by assumption)) | (with_reducible refine grow_base ?_ (by assumption))))⟩
  · cases hy : ([y0, y1, y2, y3, y4, y5, y6, y7]).all okM
    · have e1 : sameE [x0, x1, x2, x3, x4, x5, x6, x7] [y0, y1, y2, y3, y4, y5, y6, y7] 0 = 1 := by unfold sameE; rw [hx, hy]; rfl
      have e2 := bankE_yes hx
      have e3 := bankE_no hy
      clear hx hy
      go_enter Try.func10, Try.ntmps10
      go_wp2_with fail
      refine (same_any x0 x1 x2 x3 x4 x5 x6 x7 y0 y1 y2 y3 y4 y5 y6 y7 _ _).mono ?_
      rintro e w1 ⟨rfl, hb1⟩
      rw [e1]
      have b1 : Box w1 w.heap.size 50 #[.int .i64 x0, .int .i64 x1, .int .i64 x2, .int .i64 x3, .int .i64 x4, .int .i64 x5, .int .i64 x6, .int .i64 x7] := ((Box.new _ _ _).below (grow_alloc (grow_refl _) _)).below hb1
      have d1 : Box w1 (w.heap.size + 1) 50 #[.int .i64 y0, .int .i64 y1, .int .i64 y2, .int .i64 y3, .int .i64 y4, .int .i64 y5, .int .i64 y6, .int .i64 y7] := by have := (Box.new (w.alloc (.cells #[.int .i64 x0, .int .i64 x1, .int .i64 x2, .int .i64 x3, .int .i64 x4, .int .i64 x5, .int .i64 x6, .int .i64 x7] 50)) 50 #[.int .i64 y0, .int .i64 y1, .int .i64 y2, .int .i64 y3, .int .i64 y4, .int .i64 y5, .int .i64 y6, .int .i64 y7]).below hb1; simpa using this
      have c1 := b1.cell; have c1' := d1.cell
      go_wp2_with fail
      refine (bankCheck_any x0 x1 x2 x3 x4 x5 x6 x7 _).mono ?_
      rintro e w2 ⟨rfl, hb2⟩
      rw [e2]
      have c2' := (d1.below hb2).cell
      go_wp2_with fail
      refine (bankCheck_any y0 y1 y2 y3 y4 y5 y6 y7 _).mono ?_
      rintro e w3 ⟨rfl, hb3⟩
      rw [e3]
      go_wp2_with fail
      go_ret
      exact ⟨rfl, (by repeat (first | (with_reducible exact grow_refl _) | (with_reducible assumption) | (with_reducible refine grow_alloc ?_ _) | (with_reducible refine grow_set ?_ (by first | exact Nat.le_refl _ | (simp; done) | (simp; omega) | omega) _) | (with_reducible refine grow_drewN ?_ _) | (with_reducible refine grow_drew ?_) | (with_reducible refine grow_step ?_ (by assumption)) | (with_reducible refine grow_base ?_ (by assumption))))⟩
    · have e1 : sameE [x0, x1, x2, x3, x4, x5, x6, x7] [y0, y1, y2, y3, y4, y5, y6, y7] 0 = 0 := by unfold sameE; rw [hx, hy]; rfl
      have e5 : sameB [x0, x1, x2, x3, x4, x5, x6, x7] [y0, y1, y2, y3, y4, y5, y6, y7] 0 = true := by unfold sameB; rw [hx, hy, told_zero, told_zero]; rfl
      have e4 : digM [x0, x1, x2, x3, x4, x5, x6, x7] 0 = 0 ∧ digE [x0, x1, x2, x3, x4, x5, x6, x7] 0 = 0 := by unfold digM digE; rw [hx, isM_zero]; exact ⟨rfl, rfl⟩
      have H4 := Lib.hid e4
      clear hx hy e4
      go_enter Try.func10, Try.ntmps10
      go_wp2_with fail
      refine (same_any x0 x1 x2 x3 x4 x5 x6 x7 y0 y1 y2 y3 y4 y5 y6 y7 _ _).mono ?_
      rintro e w1 ⟨rfl, hb1⟩
      rw [e1, e5]
      have b1 : Box w1 w.heap.size 50 #[.int .i64 x0, .int .i64 x1, .int .i64 x2, .int .i64 x3, .int .i64 x4, .int .i64 x5, .int .i64 x6, .int .i64 x7] := ((Box.new _ _ _).below (grow_alloc (grow_refl _) _)).below hb1
      have d1 : Box w1 (w.heap.size + 1) 50 #[.int .i64 y0, .int .i64 y1, .int .i64 y2, .int .i64 y3, .int .i64 y4, .int .i64 y5, .int .i64 y6, .int .i64 y7] := by have := (Box.new (w.alloc (.cells #[.int .i64 x0, .int .i64 x1, .int .i64 x2, .int .i64 x3, .int .i64 x4, .int .i64 x5, .int .i64 x6, .int .i64 x7] 50)) 50 #[.int .i64 y0, .int .i64 y1, .int .i64 y2, .int .i64 y3, .int .i64 y4, .int .i64 y5, .int .i64 y6, .int .i64 y7]).below hb1; simpa using this
      have c1 := b1.cell; have c1' := d1.cell
      go_wp2_with fail
      refine (digest_any x0 x1 x2 x3 x4 x5 x6 x7 _ _).mono ?_
      rintro e w2 ⟨rfl, hb2⟩
      rw [H4.out.1, H4.out.2]
      go_wp2_with fail
      go_ret
      exact ⟨rfl, (by repeat (first | (with_reducible exact grow_refl _) | (with_reducible assumption) | (with_reducible refine grow_alloc ?_ _) | (with_reducible refine grow_set ?_ (by first | exact Nat.le_refl _ | (simp; done) | (simp; omega) | omega) _) | (with_reducible refine grow_drewN ?_ _) | (with_reducible refine grow_drew ?_) | (with_reducible refine grow_step ?_ (by assumption)) | (with_reducible refine grow_base ?_ (by assumption))))⟩

set_option maxRecDepth 100000 in
theorem bankNone_walks (H : Type) (enc : TypeId × Value → H) : Walks enc Try.prog 10 Try.f10 := by
  intro W base args ds p hval hA hlt hsz hsh
  have hsz0 := hsz
  rw [Try.params10] at hA hval
  obtain ⟨v0, vs0, d0, ds0, p0, q0, hargs, rfl, rfl, h0, r0⟩ := trodAll_cons hA
  obtain ⟨v1, vs1, d1, ds1, p1, q1, rfl, rfl, rfl, h1, r1⟩ := trodAll_cons r0
  obtain ⟨rfl, rfl, rfl⟩ := trodAll_nil r1
  obtain rfl : args = #[v0, v1] := by cases args; simp_all
  obtain ⟨x00, x01, x02, x03, x04, x05, x06, x07, rfl, i00, i01, i02, i03, i04, i05, i06, i07⟩ := op_bank (hval 0 50 v0 rfl rfl)
  obtain ⟨x10, x11, x12, x13, x14, x15, x16, x17, rfl, i10, i11, i12, i13, i14, i15, i16, i17⟩ := op_bank (hval 1 50 v1 rfl rfl)
  exact bankNone_walk W x00 x01 x02 x03 x04 x05 x06 x07 x10 x11 x12 x13 x14 x15 x16 x17

set_option maxRecDepth 100000 in
theorem bankNone_lifted (os : Os) (started : os.Started) (H : Type) (enc : TypeId × Value → H) :
    ReturnsInHanded {} Try.checked os 10 .any (Rows.bankNoneSpec.pre6 enc Try.prog Try.f10 Rows.bankNoneRow.domain false) (Rows.bankNoneSpec.post enc Try.prog Try.f10 false true false false) :=
  returns_of_walk (C := Try.checked) (s := Rows.bankNoneSpec) own started (by kernel_rfl) Try.func10
    (ChangeSpec.witness6 (enc := enc) (C := Try.checked) false ⟨#[], #[.agg #[.int .i64 0, .int .i64 0, .int .i64 0, .int .i64 0, .int .i64 0, .int .i64 0, .int .i64 0, .int .i64 0], .agg #[.int .i64 0, .int .i64 0, .int .i64 0, .int .i64 0, .int .i64 0, .int .i64 0, .int .i64 0, .int .i64 0]], []⟩ 8 (by kernel_rfl) (by kernel_rfl) (by kernel_rfl) (by kernel_rfl))
    laidOut (by kernel_rfl) (by kernel_rfl) Try.underlying4 rfl (fun ds h => by match ds, h with | [_, _], _ => rfl) (bankNone_walks H enc)

theorem bankNone_holds : Rows.BankNoneSaid :=
  OpenClaim.holds_of_wide 10 Try.f10 rfl rfl rfl rfl rfl rfl rfl ⟨rfl, rfl, rfl, rfl, rfl⟩ rfl rfl rfl rfl rfl (by kernel_rfl) Try.func10 (by kernel_rfl)
    (of_decide_eq_true (by kernel_rfl)) (by unfold Func.isWrapper; rw [if_neg (of_decide_eq_false (by kernel_rfl))]; exact ⟨rfl, rfl⟩)
    (fun os started H enc _ => bankNone_lifted os started H enc)

end Go.Proofs.Ytfklbifgjpocnaa
