/- QuoteNone: a quote of no register tells of every bank. -/
import Derived.Test.YtebecndmlgolpaaRows
import Derived.Test.YtebecndmlgolpaaOpen
import Derived.Test.YtebecndmlgolpaaQuote
import Derived.WalkKit
import Derived.Lib.Hide
namespace Go.Proofs.Ytebecndmlgolpaa
open Go.ChangeShapes Go.WideShapes Go.ChangeAt Go.RowKit
set_option linter.unusedVariables false
set_option maxRecDepth 100000

theorem dig_nil : digE [0, 0, 0, 0, 0, 0, 0, 0] 0 = 0 ∧ digM [0, 0, 0, 0, 0, 0, 0, 0] 0 = 0 := by
  unfold digM digE; rw [isM_zero]; exact ⟨by decide, by decide⟩
theorem mk_nil {x k n : Int} (h : mkE x k n 0 [0, 0, 0, 0, 0, 0, 0, 0] = 0) : ∃ p a, mkV x k n 0 [0, 0, 0, 0, 0, 0, 0, 0] = (n, 0, 0, p, a) := by
  unfold mkV; rw [if_pos h, dig_nil.2]; exact ⟨_, _, rfl⟩
theorem qt_no {b : List Int} (h : b.all okM = false) : qtE 0 0 b = 1 := by unfold qtE digE; rw [h]; rfl
theorem qt_yes {b : List Int} (h : b.all okM = true) : qtE 0 0 b = 0 ∧ qtB 0 0 b = true := by
  unfold qtE qtB digE digM; rw [h, isM_zero]; exact ⟨by decide, by decide⟩

set_option maxHeartbeats 1000000 in
theorem quoteNone_walk (w : World) (x k n : Int) (x0 x1 x2 x3 x4 x5 x6 x7 : Int) (_i : I64 x) (_j : I64 k) (_l : I64 n) :
    Calls Try.prog 5 #[.int .i64 x, .int .i64 k, .int .i64 n, .agg #[.int .i64 x0, .int .i64 x1, .int .i64 x2, .int .i64 x3, .int .i64 x4, .int .i64 x5, .int .i64 x6, .int .i64 x7]] w fun e w' => e = .returned (.bool true) ∧ Below w.heap.size w w' := by
  have en := fun k w => err_neq k w
  have gn := fun o k w => err_guard_neq o k w
  clear _i _j _l
  by_cases h0 : mkE x k n 0 [0, 0, 0, 0, 0, 0, 0, 0] = 0
  · obtain ⟨p, a, hv⟩ := mk_nil h0
    have H0 := Lib.hid (And.intro h0 hv)
    clear h0 hv
    cases hx : ([x0, x1, x2, x3, x4, x5, x6, x7]).all okM
    · have e1 := qt_no hx
      have e2 := bankE_no hx
      have E1 := Lib.hid e1
      clear hx e1
      go_enter Try.func5, Try.ntmps5
      go_wp2_with fail
      refine (quoteMake_any x k n 0 0 0 0 0 0 0 0 0 _).mono ?_
      rintro e w1 ⟨hret, hb1⟩
      obtain rfl := hret _ H0.out.2.symm
      clear hret
      rw [H0.out.1]
      have bx : Box w1 w.heap.size 37 #[.int .i64 x0, .int .i64 x1, .int .i64 x2, .int .i64 x3, .int .i64 x4, .int .i64 x5, .int .i64 x6, .int .i64 x7] := (Box.new _ _ _).below hb1
      have cx := bx.cell; have lx := bx.lt
      go_wp2_with fail
      refine (quoteTells_any n 0 0 p a x0 x1 x2 x3 x4 x5 x6 x7 _).mono ?_
      rintro e w2 ⟨rfl, hb2⟩
      have bx2 := (bx.alloc_ (.cells #[.int .i64 n, .int .i64 0, .int .i64 0, .int .i64 p, .int .i64 a] 50)).below hb2
      have bq2 := (Box.new w1 50 #[.int .i64 n, .int .i64 0, .int .i64 0, .int .i64 p, .int .i64 a]).below hb2
      have cx2 := bx2.cell; have lx2 := bx2.lt; have cq2 := bq2.cell; have lq2 := bq2.lt
      rw [E1.out]
      go_wp2_with fail
      refine (bankCheck_any x0 x1 x2 x3 x4 x5 x6 x7 _).mono ?_
      rintro e w3 ⟨rfl, hb3⟩
      rw [e2]
      go_wp2_with fail
      go_ret
      exact ⟨rfl, (by repeat (first | (with_reducible exact grow_refl _) | (with_reducible assumption) | (with_reducible refine grow_alloc ?_ _) | (with_reducible refine grow_set ?_ (by first | exact Nat.le_refl _ | (simp; done) | (simp; omega) | omega) _) | (with_reducible refine grow_drewN ?_ _) | (with_reducible refine grow_drew ?_) | (with_reducible refine grow_step ?_ (by assumption)) | (with_reducible refine grow_base ?_ (by assumption))))⟩
    · have E1 := Lib.hid (qt_yes hx)
      clear hx
      go_enter Try.func5, Try.ntmps5
      go_wp2_with fail
      refine (quoteMake_any x k n 0 0 0 0 0 0 0 0 0 _).mono ?_
      rintro e w1 ⟨hret, hb1⟩
      obtain rfl := hret _ H0.out.2.symm
      clear hret
      rw [H0.out.1]
      have bx : Box w1 w.heap.size 37 #[.int .i64 x0, .int .i64 x1, .int .i64 x2, .int .i64 x3, .int .i64 x4, .int .i64 x5, .int .i64 x6, .int .i64 x7] := (Box.new _ _ _).below hb1
      have cx := bx.cell; have lx := bx.lt
      go_wp2_with fail
      refine (quoteTells_any n 0 0 p a x0 x1 x2 x3 x4 x5 x6 x7 _).mono ?_
      rintro e w2 ⟨rfl, hb2⟩
      have bx2 := (bx.alloc_ (.cells #[.int .i64 n, .int .i64 0, .int .i64 0, .int .i64 p, .int .i64 a] 50)).below hb2
      have bq2 := (Box.new w1 50 #[.int .i64 n, .int .i64 0, .int .i64 0, .int .i64 p, .int .i64 a]).below hb2
      have cx2 := bx2.cell; have lx2 := bx2.lt; have cq2 := bq2.cell; have lq2 := bq2.lt
      rw [E1.out.1, E1.out.2]
      go_wp2_with fail
      go_ret
      exact ⟨rfl, (by repeat (first | (with_reducible exact grow_refl _) | (with_reducible assumption) | (with_reducible refine grow_alloc ?_ _) | (with_reducible refine grow_set ?_ (by first | exact Nat.le_refl _ | (simp; done) | (simp; omega) | omega) _) | (with_reducible refine grow_drewN ?_ _) | (with_reducible refine grow_drew ?_) | (with_reducible refine grow_step ?_ (by assumption)) | (with_reducible refine grow_base ?_ (by assumption))))⟩
  · obtain ⟨E, hE⟩ : ∃ E, mkE x k n 0 [0, 0, 0, 0, 0, 0, 0, 0] = E := ⟨_, rfl⟩
    obtain ⟨⟨v0, v1, v2, v3, v4⟩, hv⟩ : ∃ v, mkV x k n 0 [0, 0, 0, 0, 0, 0, 0, 0] = v := ⟨_, rfl⟩
    have t : (E != 0) = true := by rw [← hE]; simpa using h0
    have H0 := Lib.hid (And.intro hE hv)
    clear h0 hE hv
    go_enter Try.func5, Try.ntmps5
    go_wp2_with fail
    refine (quoteMake_any x k n 0 0 0 0 0 0 0 0 0 _).mono ?_
    rintro e w1 ⟨hret, hb1⟩
    obtain rfl := hret _ H0.out.2.symm
    clear hret
    rw [H0.out.1]
    go_wp2_with fail
    go_ret
    exact ⟨rfl, (by repeat (first | (with_reducible exact grow_refl _) | (with_reducible assumption) | (with_reducible refine grow_alloc ?_ _) | (with_reducible refine grow_set ?_ (by first | exact Nat.le_refl _ | (simp; done) | (simp; omega) | omega) _) | (with_reducible refine grow_drewN ?_ _) | (with_reducible refine grow_drew ?_) | (with_reducible refine grow_step ?_ (by assumption)) | (with_reducible refine grow_base ?_ (by assumption))))⟩

set_option maxRecDepth 100000 in
theorem quoteNone_walks (H : Type) (enc : TypeId × Value → H) : Walks enc Try.prog 5 Try.f5 := by
  intro W base args ds p hval hA hlt hsz hsh
  have hsz0 := hsz
  rw [Try.params5] at hA hval
  obtain ⟨v0, vs0, d0, ds0, p0, q0, hargs, rfl, rfl, h0, r0⟩ := trodAll_cons hA
  obtain ⟨v1, vs1, d1, ds1, p1, q1, rfl, rfl, rfl, h1, r1⟩ := trodAll_cons r0
  obtain ⟨v2, vs2, d2, ds2, p2, q2, rfl, rfl, rfl, h2, r2⟩ := trodAll_cons r1
  obtain ⟨v3, vs3, d3, ds3, p3, q3, rfl, rfl, rfl, h3, r3⟩ := trodAll_cons r2
  obtain ⟨rfl, rfl, rfl⟩ := trodAll_nil r3
  obtain rfl : args = #[v0, v1, v2, v3] := by cases args; simp_all
  obtain ⟨a0, rfl, w0⟩ := op_int (hval 0 3 v0 rfl rfl) h0
  obtain ⟨a1, rfl, w1⟩ := op_int (hval 1 3 v1 rfl rfl) h1
  obtain ⟨a2, rfl, w2⟩ := op_int (hval 2 3 v2 rfl rfl) h2
  obtain ⟨x30, x31, x32, x33, x34, x35, x36, x37, rfl, i30, i31, i32, i33, i34, i35, i36, i37⟩ := op_bank (hval 3 37 v3 rfl rfl)
  exact quoteNone_walk W a0 a1 a2 x30 x31 x32 x33 x34 x35 x36 x37 w0 w1 w2

set_option maxRecDepth 100000 in
theorem quoteNone_lifted (os : Os) (started : os.Started) (H : Type) (enc : TypeId × Value → H) :
    ReturnsInHanded {} Try.checked os 5 .any (Rows.quoteNoneSpec.pre6 enc Try.prog Try.f5 Rows.quoteNoneRow.domain false) (Rows.quoteNoneSpec.post enc Try.prog Try.f5 false true false false) :=
  returns_of_walk (C := Try.checked) (s := Rows.quoteNoneSpec) own started (by kernel_rfl) Try.func5
    (ChangeSpec.witness6 (enc := enc) (C := Try.checked) false ⟨#[], #[.int .i64 0, .int .i64 0, .int .i64 0, .agg #[.int .i64 0, .int .i64 0, .int .i64 0, .int .i64 0, .int .i64 0, .int .i64 0, .int .i64 0, .int .i64 0]], []⟩ 8 (by kernel_rfl) (by kernel_rfl) (by kernel_rfl) (by kernel_rfl))
    laidOut (by kernel_rfl) (by kernel_rfl) Try.underlying4 rfl (fun ds h => by match ds, h with | [_, _, _, _], _ => rfl) (quoteNone_walks H enc)

theorem quoteNone_holds : Rows.QuoteNoneSaid :=
  OpenClaim.holds_of_wide 5 Try.f5 rfl rfl rfl rfl rfl rfl rfl ⟨rfl, rfl, rfl, rfl, rfl⟩ rfl rfl rfl rfl rfl (by kernel_rfl) Try.func5 (by kernel_rfl)
    (of_decide_eq_true (by kernel_rfl)) (by unfold Func.isWrapper; rw [if_neg (of_decide_eq_false (by kernel_rfl))]; exact ⟨rfl, rfl⟩)
    (fun os started H enc _ => quoteNone_lifted os started H enc)

end Go.Proofs.Ytebecndmlgolpaa
