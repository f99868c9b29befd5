/- BoxNone: who asks for nothing opens anywhere. -/
import Derived.Test.YtfklbifgjpocnaaRows
import Derived.Test.YtfklbifgjpocnaaOpen
import Derived.Test.YtfklbifgjpocnaaBox
import Derived.WalkKit
import Derived.Lib.Hide
namespace Go.Proofs.Ytfklbifgjpocnaa
open Go.ChangeShapes Go.WideShapes Go.ChangeAt Go.RowKit
set_option linter.unusedVariables false

theorem digE_zero {b : List Int} (h : b.all okM = true) : digE b 0 = 0 := by unfold digE; rw [h]; rfl
theorem digM_zero (b : List Int) : digM b 0 = 0 := by unfold digM; rw [isM_zero]; split <;> rfl

set_option maxHeartbeats 1000000 in
theorem boxNone_walk (w : World) (s : Int) (x0 x1 x2 x3 x4 x5 x6 x7 : Int) (hs0 : I64 s) :
    Calls Try.prog 11 #[.int .i64 s, .agg #[.int .i64 x0, .int .i64 x1, .int .i64 x2, .int .i64 x3, .int .i64 x4, .int .i64 x5, .int .i64 x6, .int .i64 x7]] w fun e w' => e = .returned (.bool true) ∧ Below w.heap.size w w' := by
  have en := fun k w => err_neq k w
  have gn := fun o k w => err_guard_neq o k w
  clear hs0
  cases hs : okM s
  · have E1 : Hid (clE s 0 [0, 0, 0, 0, 0, 0, 0, 0] = 1) := Lib.hid (by unfold clE; rw [hs]; rfl)
    rcases okM_no hs with h' | h'
    all_goals
      clear hs
      go_enter Try.func11, Try.ntmps11
      go_wp2_with fail
      refine (close_any _ _ _ _ _ _ _ _ _ _ _).mono ?_
      rintro e w1 ⟨rfl, hb1⟩
      rw [E1.out]
      go_wp2_with fail
      go_ret
      exact ⟨rfl, (by repeat (first | (with_reducible exact grow_refl _) | (with_reducible assumption) | (with_reducible refine grow_alloc ?_ _) | (with_reducible refine grow_set ?_ (by first | exact Nat.le_refl _ | (simp; done) | (simp; omega) | omega) _) | (with_reducible refine grow_drewN ?_ _) | (with_reducible refine grow_drew ?_) | (with_reducible refine grow_step ?_ (by assumption)) | (with_reducible refine grow_base ?_ (by assumption))))⟩
  · have hd0 : digE [0, 0, 0, 0, 0, 0, 0, 0] 0 = 0 := by decide
    have hm0 : digM [0, 0, 0, 0, 0, 0, 0, 0] 0 = 0 := digM_zero _
    have E1 : Hid (clE s 0 [0, 0, 0, 0, 0, 0, 0, 0] = 0 ∧ clM s 0 [0, 0, 0, 0, 0, 0, 0, 0] = 0 ∧ clL s 0 [0, 0, 0, 0, 0, 0, 0, 0] = 2 ∧ clI s 0 [0, 0, 0, 0, 0, 0, 0, 0] = (s + 3) % 1000003) := Lib.hid (by
      unfold clE clM clL clI clOk; rw [hs, hd0, hm0]; exact ⟨rfl, rfl, rfl, rfl⟩)
    obtain ⟨s1, s2⟩ := okM_yes hs
    have kI : okM ((s + 3) % 1000003) = true := okM_mk (by omega) (by omega)
    cases hb : ([x0, x1, x2, x3, x4, x5, x6, x7]).all okM
    · have hd : digE [x0, x1, x2, x3, x4, x5, x6, x7] 0 = 1 := by unfold digE; rw [hb]; rfl
      have E2 : Hid (opE 0 2 ((s + 3) % 1000003) [x0, x1, x2, x3, x4, x5, x6, x7] = 1) := Lib.hid (by unfold opE; rw [kI, hd]; rfl)
      have e3 := bankE_no hb
      clear hb hd hs kI hd0 hm0
      go_enter Try.func11, Try.ntmps11
      go_wp2_with fail
      refine (close_any _ _ _ _ _ _ _ _ _ _ _).mono ?_
      rintro e w1 ⟨rfl, hb1⟩
      rw [E1.out.1, E1.out.2.1, E1.out.2.2.1, E1.out.2.2.2]
      have bb := (Box.new _ _ _).below hb1
      have cb := bb.cell; have lb := bb.lt
      go_wp2_with fail
      refine (open_any _ _ _ x0 x1 x2 x3 x4 x5 x6 x7 _).mono ?_
      rintro e w2 ⟨rfl, hb2⟩
      rw [E2.out]
      have cb2 := (bb.below (grow_alloc (grow_refl _) _)).below hb2
      have cb3 := cb2.cell; have lb3 := cb2.lt
      go_wp2_with fail
      refine (bankCheck_any x0 x1 x2 x3 x4 x5 x6 x7 _).mono ?_
      rintro e w3 ⟨rfl, hb3⟩
      rw [e3]
      go_wp2_with fail
      go_ret
      exact ⟨rfl, (by repeat (first | (with_reducible exact grow_refl _) | (with_reducible assumption) | (with_reducible refine grow_alloc ?_ _) | (with_reducible refine grow_set ?_ (by first | exact Nat.le_refl _ | (simp; done) | (simp; omega) | omega) _) | (with_reducible refine grow_drewN ?_ _) | (with_reducible refine grow_drew ?_) | (with_reducible refine grow_step ?_ (by assumption)) | (with_reducible refine grow_base ?_ (by assumption))))⟩
    · have hd := digE_zero hb
      have E2 : Hid (opE 0 2 ((s + 3) % 1000003) [x0, x1, x2, x3, x4, x5, x6, x7] = 0 ∧ opM 0 2 ((s + 3) % 1000003) [x0, x1, x2, x3, x4, x5, x6, x7] = s) := Lib.hid (by
        have h0 : opE 0 2 ((s + 3) % 1000003) [x0, x1, x2, x3, x4, x5, x6, x7] = 0 := by unfold opE; rw [kI, hd, digM_zero]; rfl
        refine ⟨h0, ?_⟩
        unfold opM; rw [h0, if_pos rfl, digM_zero]
        have : pairM 0 2 = 3 := rfl
        rw [this]; omega)
      clear hb hd hs kI hd0 hm0
      go_enter Try.func11, Try.ntmps11
      go_wp2_with fail
      refine (close_any _ _ _ _ _ _ _ _ _ _ _).mono ?_
      rintro e w1 ⟨rfl, hb1⟩
      rw [E1.out.1, E1.out.2.1, E1.out.2.2.1, E1.out.2.2.2]
      have bb := (Box.new _ _ _).below hb1
      have cb := bb.cell; have lb := bb.lt
      go_wp2_with fail
      refine (open_any _ _ _ x0 x1 x2 x3 x4 x5 x6 x7 _).mono ?_
      rintro e w2 ⟨rfl, hb2⟩
      rw [E2.out.1, E2.out.2]
      go_wp2_with fail
      go_ret
      exact ⟨bool_lit (by simp), (by repeat (first | (with_reducible exact grow_refl _) | (with_reducible assumption) | (with_reducible refine grow_alloc ?_ _) | (with_reducible refine grow_set ?_ (by first | exact Nat.le_refl _ | (simp; done) | (simp; omega) | omega) _) | (with_reducible refine grow_drewN ?_ _) | (with_reducible refine grow_drew ?_) | (with_reducible refine grow_step ?_ (by assumption)) | (with_reducible refine grow_base ?_ (by assumption))))⟩

set_option maxRecDepth 100000 in
theorem boxNone_walks (H : Type) (enc : TypeId × Value → H) : Walks enc Try.prog 11 Try.f11 := by
  intro W base args ds p hval hA hlt hsz hsh
  have hsz0 := hsz
  rw [Try.params11] at hA hval
  obtain ⟨v0, vs0, d0, ds0, p0, q0, hargs, rfl, rfl, h0, r0⟩ := trodAll_cons hA
  obtain ⟨v1, vs1, d1, ds1, p1, q1, rfl, rfl, rfl, h1, r1⟩ := trodAll_cons r0
  obtain ⟨rfl, rfl, rfl⟩ := trodAll_nil r1
  obtain rfl : args = #[v0, v1] := by cases args; simp_all
  obtain ⟨a0, rfl, w0⟩ := op_int (hval 0 3 v0 rfl rfl) h0
  obtain ⟨x10, x11, x12, x13, x14, x15, x16, x17, rfl, i10, i11, i12, i13, i14, i15, i16, i17⟩ := op_bank (hval 1 50 v1 rfl rfl)
  exact boxNone_walk W a0 x10 x11 x12 x13 x14 x15 x16 x17 w0

set_option maxRecDepth 100000 in
theorem boxNone_lifted (os : Os) (started : os.Started) (H : Type) (enc : TypeId × Value → H) :
    ReturnsInHanded {} Try.checked os 11 .any (Rows.boxNoneSpec.pre6 enc Try.prog Try.f11 Rows.boxNoneRow.domain false) (Rows.boxNoneSpec.post enc Try.prog Try.f11 false true false false) :=
  returns_of_walk (C := Try.checked) (s := Rows.boxNoneSpec) own started (by kernel_rfl) Try.func11
    (ChangeSpec.witness6 (enc := enc) (C := Try.checked) false ⟨#[], #[.int .i64 0, .agg #[.int .i64 0, .int .i64 0, .int .i64 0, .int .i64 0, .int .i64 0, .int .i64 0, .int .i64 0, .int .i64 0]], []⟩ 8 (by kernel_rfl) (by kernel_rfl) (by kernel_rfl) (by kernel_rfl))
    laidOut (by kernel_rfl) (by kernel_rfl) Try.underlying4 rfl (fun ds h => by match ds, h with | [_, _], _ => rfl) (boxNone_walks H enc)

theorem boxNone_holds : Rows.BoxNoneSaid :=
  OpenClaim.holds_of_wide 11 Try.f11 rfl rfl rfl rfl rfl rfl rfl ⟨rfl, rfl, rfl, rfl, rfl⟩ rfl rfl rfl rfl rfl (by kernel_rfl) Try.func11 (by kernel_rfl)
    (of_decide_eq_true (by kernel_rfl)) (by unfold Func.isWrapper; rw [if_neg (of_decide_eq_false (by kernel_rfl))]; exact ⟨rfl, rfl⟩)
    (fun os started H enc _ => boxNone_lifted os started H enc)

end Go.Proofs.Ytfklbifgjpocnaa
