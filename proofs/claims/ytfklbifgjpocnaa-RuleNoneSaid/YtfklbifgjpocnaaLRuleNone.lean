/- RuleNone: without a rule all fit. -/
import Derived.Test.YtfklbifgjpocnaaRows
import Derived.Test.YtfklbifgjpocnaaOpen
import Derived.Test.YtfklbifgjpocnaaRule2
import Derived.WalkKit
import Derived.Lib.Hide
namespace Go.Proofs.Ytfklbifgjpocnaa
open Go.ChangeShapes Go.WideShapes Go.ChangeAt Go.RowKit
set_option linter.unusedVariables false

set_option maxHeartbeats 1000000 in
theorem ruleNone_walk (w : World) (x0 x1 x2 x3 x4 x5 x6 x7 : Int) :
    Calls Try.prog 12 #[.agg #[.int .i64 x0, .int .i64 x1, .int .i64 x2, .int .i64 x3, .int .i64 x4, .int .i64 x5, .int .i64 x6, .int .i64 x7]] w fun e w' => e = .returned (.bool true) ∧ Below w.heap.size w w' := by
  have en := fun k w => err_neq k w
  have ee := fun k w => err_eql k w
  have gn := fun o k w => err_guard_neq o k w
  have ge := fun o k w => err_guard_eql o k w
  have r0 : rulesE [] = 0 := rfl
  have m0 : maskM [] = 0 := rfl
  cases hx : ([x0, x1, x2, x3, x4, x5, x6, x7]).all okM
  · have e1 : fitsE [] [x0, x1, x2, x3, x4, x5, x6, x7] = 1 := by unfold fitsE; rw [if_pos r0, bankE_no hx]
    have e2 := bankE_no hx
    have E1 := Lib.hid e1
    clear hx e1
    go_enter Try.func12, Try.ntmps12
    go_wp2_with fail
    refine (fits_any none 0 [] x0 x1 x2 x3 x4 x5 x6 x7 _ (RulesAt.nil_ _ _) (by simp) (by simp) (fun r hr => by cases hr)).mono ?_
    rintro e w1 ⟨rfl, hb1⟩
    rw [E1.out]
    have b1 := (Box.new _ _ _).below hb1
    go_wp2_with fail
    refine (ruleMask_any none 0 [] _ (RulesAt.nil_ _ _) (by simp) (by simp) (fun r hr => by cases hr)).mono ?_
    rintro e w2 ⟨rfl, hb2⟩
    have c2 := (b1.below hb2).cell
    go_wp2_with fail
    refine (bankCheck_any x0 x1 x2 x3 x4 x5 x6 x7 _).mono ?_
    rintro e w3 ⟨rfl, hb3⟩
    rw [e2]
    go_wp2_with fail
    go_ret
    exact ⟨rfl, (by repeat (first | (with_reducible exact grow_refl _) | (with_reducible assumption) | (with_reducible refine grow_alloc ?_ _) | (with_reducible refine grow_set ?_ (by first | exact Nat.le_refl _ | (simp; done) | (simp; omega) | omega) _) | (with_reducible refine grow_drewN ?_ _) | (with_reducible refine grow_drew ?_) | (with_reducible refine grow_step ?_ (by assumption)) | (with_reducible refine grow_base ?_ (by assumption))))⟩
  · have e1 : fitsE [] [x0, x1, x2, x3, x4, x5, x6, x7] = 0 ∧ fitsB [] [x0, x1, x2, x3, x4, x5, x6, x7] = true := by unfold fitsE fitsB; rw [if_pos r0, bankE_yes hx, hx]; exact ⟨rfl, rfl⟩
    have E1 := Lib.hid e1
    clear hx e1
    go_enter Try.func12, Try.ntmps12
    go_wp2_with fail
    refine (fits_any none 0 [] x0 x1 x2 x3 x4 x5 x6 x7 _ (RulesAt.nil_ _ _) (by simp) (by simp) (fun r hr => by cases hr)).mono ?_
    rintro e w1 ⟨rfl, hb1⟩
    rw [E1.out.1, E1.out.2]
    go_wp2_with fail
    refine (ruleMask_any none 0 [] _ (RulesAt.nil_ _ _) (by simp) (by simp) (fun r hr => by cases hr)).mono ?_
    rintro e w2 ⟨rfl, hb2⟩
    go_wp2_with fail
    go_ret
    exact ⟨rfl, (by repeat (first | (with_reducible exact grow_refl _) | (with_reducible assumption) | (with_reducible refine grow_alloc ?_ _) | (with_reducible refine grow_set ?_ (by first | exact Nat.le_refl _ | (simp; done) | (simp; omega) | omega) _) | (with_reducible refine grow_drewN ?_ _) | (with_reducible refine grow_drew ?_) | (with_reducible refine grow_step ?_ (by assumption)) | (with_reducible refine grow_base ?_ (by assumption))))⟩

set_option maxRecDepth 100000 in
theorem ruleNone_walks (H : Type) (enc : TypeId × Value → H) : Walks enc Try.prog 12 Try.f12 := by
  intro W base args ds p hval hA hlt hsz hsh
  have hsz0 := hsz
  rw [Try.params12] at hA hval
  obtain ⟨v0, vs0, d0, ds0, p0, q0, hargs, rfl, rfl, h0, r0⟩ := trodAll_cons hA
  obtain ⟨rfl, rfl, rfl⟩ := trodAll_nil r0
  obtain rfl : args = #[v0] := by cases args; simp_all
  obtain ⟨x00, x01, x02, x03, x04, x05, x06, x07, rfl, i00, i01, i02, i03, i04, i05, i06, i07⟩ := op_bank (hval 0 50 v0 rfl rfl)
  exact ruleNone_walk W x00 x01 x02 x03 x04 x05 x06 x07

set_option maxRecDepth 100000 in
theorem ruleNone_lifted (os : Os) (started : os.Started) (H : Type) (enc : TypeId × Value → H) :
    ReturnsInHanded {} Try.checked os 12 .any (Rows.ruleNoneSpec.pre6 enc Try.prog Try.f12 Rows.ruleNoneRow.domain false) (Rows.ruleNoneSpec.post enc Try.prog Try.f12 false true false false) :=
  returns_of_walk (C := Try.checked) (s := Rows.ruleNoneSpec) own started (by kernel_rfl) Try.func12
    (ChangeSpec.witness6 (enc := enc) (C := Try.checked) false ⟨#[], #[.agg #[.int .i64 0, .int .i64 0, .int .i64 0, .int .i64 0, .int .i64 0, .int .i64 0, .int .i64 0, .int .i64 0]], []⟩ 8 (by kernel_rfl) (by kernel_rfl) (by kernel_rfl) (by kernel_rfl))
    laidOut (by kernel_rfl) (by kernel_rfl) Try.underlying4 rfl (fun ds h => by match ds, h with | [_], _ => rfl) (ruleNone_walks H enc)

theorem ruleNone_holds : Rows.RuleNoneSaid :=
  OpenClaim.holds_of_wide 12 Try.f12 rfl rfl rfl rfl rfl rfl rfl ⟨rfl, rfl, rfl, rfl, rfl⟩ rfl rfl rfl rfl rfl (by kernel_rfl) Try.func12 (by kernel_rfl)
    (of_decide_eq_true (by kernel_rfl)) (by unfold Func.isWrapper; rw [if_neg (of_decide_eq_false (by kernel_rfl))]; exact ⟨rfl, rfl⟩)
    (fun os started H enc _ => ruleNone_lifted os started H enc)

end Go.Proofs.Ytfklbifgjpocnaa
