/- MeasureNone: of nothing it is one, and of no number nought. -/
import Derived.Test.YtfklbifgjpocnaaRows
import Derived.Test.YtfklbifgjpocnaaOpen
import Derived.Test.YtfklbifgjpocnaaMeas
import Derived.WalkKit
import Derived.Lib.Hide
namespace Go.Proofs.Ytfklbifgjpocnaa
open Go.ChangeShapes Go.WideShapes Go.ChangeAt Go.RowKit
set_option linter.unusedVariables false

set_option maxHeartbeats 400000 in
theorem measureNone_walk (w : World) (n : Int) (hn : I64 n) :
    Calls Try.prog 5 #[.int .i64 n] w fun e w' => e = .returned (.bool true) ∧ Below w.heap.size w w' := by
  have en := fun k w => err_neq k w
  have ee := fun k w => err_eql k w
  have gn := fun o k w => err_guard_neq o k w
  have ge := fun o k w => err_guard_eql o k w
  have e1 : ofE [] = 0 := rfl
  have e2 : ofM [] = 1 := rfl
  have e3 : allE [] = 0 := rfl
  have e4 : allM [] = 0 := rfl
  cases h : okM n
  · have e5 : allE [n] = 1 := by simp [allE, h]
    have e6 : allM [n] = 0 := by simp [allM, e5]
    have HB := Lib.hid (okM_no h)
    clear h
    go_enter Try.func5, Try.ntmps5
    go_wp2_with fail
    refine (mOf_any ⟨#[]⟩ _ (by decide)).mono ?_
    rintro e w1 ⟨rfl, hb1⟩
    have HB1 := Lib.hid hb1
    clear hb1
    go_wp2_with fail
    refine (all_any none 0 [] _ (IntsAt.nil_ _ _) (by decide)).mono ?_
    rintro e w2 ⟨rfl, rfl⟩
    go_wp2_with fail
    refine (all_any _ 1 [n] _ (IntsAt.new_ _ _ _ _) (by simp)).mono ?_
    rintro e w2 ⟨rfl, rfl⟩
    go_wp2_with fail
    all_goals go_ret
    all_goals exact ⟨bool_lit (by have := HB.out; simp; try omega), HB1.out.alloc HB1.out.size _⟩
  · have e5 : allE [n] = 0 := by simp [allE, h]
    have e6 : allM [n] = (n + 1) % 1000003 := by simp [allM, e5, rowM, pairM]
    obtain ⟨b1, b2⟩ := okM_yes h
    clear h
    go_enter Try.func5, Try.ntmps5
    go_wp2_with fail
    refine (mOf_any ⟨#[]⟩ _ (by decide)).mono ?_
    rintro e w1 ⟨rfl, hb1⟩
    have HB1 := Lib.hid hb1
    clear hb1
    go_wp2_with fail
    refine (all_any none 0 [] _ (IntsAt.nil_ _ _) (by decide)).mono ?_
    rintro e w2 ⟨rfl, rfl⟩
    go_wp2_with fail
    refine (all_any _ 1 [n] _ (IntsAt.new_ _ _ _ _) (by simp)).mono ?_
    rintro e w2 ⟨rfl, rfl⟩
    go_wp2_with fail
    all_goals go_ret
    exact ⟨bool_lit (by simp), HB1.out.alloc HB1.out.size _⟩

set_option maxRecDepth 100000 in
theorem measureNone_walks (H : Type) (enc : TypeId × Value → H) : Walks enc Try.prog 5 Try.f5 := by
  intro W base args ds p hval hA hlt hsz hsh
  have hsz0 := hsz
  rw [Try.params5] at hA hval
  obtain ⟨v0, vs0, d0, ds0, p0, q0, hargs, rfl, rfl, h0, r0⟩ := trodAll_cons hA
  obtain ⟨rfl, rfl, rfl⟩ := trodAll_nil r0
  obtain rfl : args = #[v0] := by cases args; simp_all
  obtain ⟨a0, rfl, w0⟩ := op_int (hval 0 3 v0 rfl rfl) h0
  exact measureNone_walk W a0 w0

set_option maxRecDepth 100000 in
theorem measureNone_lifted (os : Os) (started : os.Started) (H : Type) (enc : TypeId × Value → H) :
    ReturnsInHanded {} Try.checked os 5 .any (Rows.measureNoneSpec.pre6 enc Try.prog Try.f5 Rows.measureNoneRow.domain false) (Rows.measureNoneSpec.post enc Try.prog Try.f5 false true false false) :=
  returns_of_walk (C := Try.checked) (s := Rows.measureNoneSpec) own started (by kernel_rfl) Try.func5
    (ChangeSpec.witness6 (enc := enc) (C := Try.checked) false ⟨#[], #[.int .i64 0], []⟩ 8 (by kernel_rfl) (by kernel_rfl) (by kernel_rfl) (by kernel_rfl))
    laidOut (by kernel_rfl) (by kernel_rfl) Try.underlying4 rfl (fun ds h => by match ds, h with | [_], _ => rfl) (measureNone_walks H enc)

theorem measureNone_holds : Rows.MeasureNoneSaid :=
  OpenClaim.holds_of_wide 5 Try.f5 rfl rfl rfl rfl rfl rfl rfl ⟨rfl, rfl, rfl, rfl, rfl⟩ rfl rfl rfl rfl rfl (by kernel_rfl) Try.func5 (by kernel_rfl)
    (of_decide_eq_true (by kernel_rfl)) (by unfold Func.isWrapper; rw [if_neg (of_decide_eq_false (by kernel_rfl))]; exact ⟨rfl, rfl⟩)
    (fun os started H enc _ => measureNone_lifted os started H enc)

end Go.Proofs.Ytfklbifgjpocnaa
