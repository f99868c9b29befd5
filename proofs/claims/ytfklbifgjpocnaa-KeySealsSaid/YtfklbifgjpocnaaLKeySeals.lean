/- KeySeals: who has the secret seals (Schnorr). -/
import Derived.Test.YtfklbifgjpocnaaRows
import Derived.Test.YtfklbifgjpocnaaOpen
import Derived.Test.YtfklbifgjpocnaaKey
import Derived.Test.YtfklbifgjpocnaaSeal
import Derived.Test.YtfklbifgjpocnaaRefA
import Derived.WalkKit
import Derived.Lib.Hide
namespace Go.Proofs.Ytfklbifgjpocnaa
open Go.ChangeShapes Go.WideShapes Go.ChangeAt Go.RowKit
set_option linter.unusedVariables false

set_option maxHeartbeats 2000000 in
theorem keySeals_walk (w : World) (x k m other n : Int) (i1 : I64 x) (i2 : I64 k) (i3 : I64 m) (i4 : I64 other) (i5 : I64 n) :
    Calls Try.prog 7 #[.int .i64 x, .int .i64 k, .int .i64 m, .int .i64 other, .int .i64 n] w fun e w' => e = .returned (.bool true) ∧ Below w.heap.size w w' := by
  have en := fun k w => err_neq k w
  have ee := fun k w => err_eql k w
  have gn := fun o k w => err_guard_neq o k w
  have ge := fun o k w => err_guard_eql o k w
  have f1 : pubE 1 = 0 := by decide
  have f2 : pubM 1 = 64 := by decide
  clear i1 i2 i3 i4 i5
  cases h : okSign x k m
  · have hE : sgE x k m = 1 := by simp [sgE, h]
    clear h
    go_enter Try.func7, Try.ntmps7
    go_wp2_with (first | (go_at_call 15; refine (public_any _ _).mono ?_; rintro e w' ⟨rfl, rfl⟩) | (go_at_call 20; refine (sign_any _ _ _ _).mono ?_; rintro e w1 ⟨rfl, hb1⟩))
    go_ret
    exact ⟨rfl, (by repeat (first | exact grow_refl _ | assumption | refine grow_alloc ?_ _ | refine grow_set ?_ (by first | exact Nat.le_refl _ | (simp; done) | (simp; omega) | omega) _ | refine grow_drewN ?_ _ | refine grow_drew ?_ | refine grow_step ?_ (by assumption) | refine grow_base ?_ (by assumption)))⟩
  · have hs : okSecret x = true ∧ okSecret k = true ∧ okM m = true := by
      simp only [okSign, Bool.and_eq_true] at h
      exact ⟨h.1.1, h.1.2, h.2⟩
    obtain ⟨hx, hk, hm⟩ := hs
    have sE : sgE x k m = 0 := by simp [sgE, h]
    have sP : sgP x k m = pwI 64 k := by simp [sgP, h]
    have sA : sgA x k m = sealA x k m := by simp [sgA, h]
    have pE := pubE_yes hx
    have pM := pubM_yes hx
    obtain ⟨q1, q2⟩ := okIn_yes (key_in (x := x) (by have := okSecret_yes hx; omega) (by have := okSecret_yes hx; omega))
    obtain ⟨a1, a2⟩ := sealA_bd x k m
    have kIn : okIn (pwI 64 x) = true := decide_eq_true ⟨q1, q2⟩
    have kIn2 : okIn (pwI 64 k) = true := key_in (by have := okSecret_yes hk; omega) (by have := okSecret_yes hk; omega)
    have kA : okAns (sealA x k m) = true := decide_eq_true ⟨a1, a2⟩
    have kS : okSeal (pwI 64 x) m (pwI 64 k) (sealA x k m) = true := by simp [okSeal, kIn, kIn2, hm, kA]
    have c1E : chkE (pwI 64 x) m (pwI 64 k) (sealA x k m) = 0 := by simp [chkE, kS]
    have c1B : chkB (pwI 64 x) m (pwI 64 k) (sealA x k m) = true := by simp [chkB, kS, seal_right x k m hx hk]
    have HX := Lib.hid hx
    have HK := Lib.hid hk
    have HM := Lib.hid hm
    have hother : (chkE (pwI 64 x) m (pwI 64 k) other = 1) ∨ (chkE (pwI 64 x) m (pwI 64 k) other = 0 ∧ chkB (pwI 64 x) m (pwI 64 k) other = (other == sealA x k m)) := by
      cases ho : okAns other
      · left
        simp [chkE, okSeal, ho]
      · right
        have ho' := okAns_yes ho
        have hS : okSeal (pwI 64 x) m (pwI 64 k) other = true := by simp [okSeal, kIn, kIn2, hm, ho]
        exact ⟨by simp [chkE, hS], by simp [chkB, hS, seal_only x k m other hx hk ho'.1 ho'.2]⟩
    have hnn : (sgE x k n = 1) ∨ (okM n = true ∧ sgE x k n = 0 ∧ sgP x k n = pwI 64 k ∧ sgA x k n = sealA x k n ∧ (sealA x k m == sealA x k n) = true) ∨ (okM n = true ∧ sgE x k n = 0 ∧ sgP x k n = pwI 64 k ∧ sgA x k n = sealA x k n ∧ (sealA x k m == sealA x k n) = false) := by
      cases hn : okM n
      · left; simp [sgE, okSign, hn]
      · right
        have hS : okSign x k n = true := by simp [okSign, hx, hk, hn]
        cases he : (sealA x k m == sealA x k n)
        · right; exact ⟨rfl, by simp [sgE, hS], by simp [sgP, hS], by simp [sgA, hS], rfl⟩
        · left; exact ⟨rfl, by simp [sgE, hS], by simp [sgP, hS], by simp [sgA, hS], rfl⟩
    have HN := Lib.hid hnn
    clear hnn kS kA kIn kIn2 hx hk hm h
    have HO := Lib.hid hother
    clear hother
    rcases HO.out with o1 | ⟨o1, o2⟩
    all_goals
    clear HO
    go_enter Try.func7, Try.ntmps7
    go_wp2_with fail
    refine (public_any _ _).mono ?_
    rintro e w' ⟨rfl, rfl⟩
    go_wp2_with fail
    refine (sign_any _ _ _ _).mono ?_
    rintro e w1 ⟨rfl, hb_w1⟩
    go_wp2_with fail
    refine (public_any _ _).mono ?_
    rintro e w' ⟨rfl, rfl⟩
    go_wp2_with fail
    refine (check_any _ _ _ _ _).mono ?_
    rintro e w2 ⟨rfl, hb_w2⟩
    have B2 := (Box.new _ _ _).below hb_w2
    have c2 := B2.cell; have f2 := B2.frozen; have l2 := B2.lt
    go_wp2_with fail
    refine (check_any _ _ _ _ _).mono ?_
    rintro e w3 ⟨rfl, hb_w3⟩
    clear c2 f2 l2
    have B3 := B2.below hb_w3
    have c3 := B3.cell; have f3 := B3.frozen; have l3 := B3.lt
    go_wp2_with fail
    refine (sign_any _ _ _ _).mono ?_
    rintro e w4 ⟨rfl, hb_w4⟩
    clear c3 f3 l3
    have B4 := B3.below hb_w4
    have c4 := B4.cell; have f4 := B4.frozen; have l4 := B4.lt
    rcases HN.out with n1 | ⟨n0, n1, n2, n3, n4⟩ | ⟨n0, n1, n2, n3, n4⟩
    · go_wp2_with fail
      go_ret
      exact ⟨rfl, (by repeat (first | exact grow_refl _ | assumption | refine grow_alloc ?_ _ | refine grow_set ?_ (by first | exact Nat.le_refl _ | (simp; done) | (simp; omega) | omega) _ | refine grow_drewN ?_ _ | refine grow_drew ?_ | refine grow_step ?_ (by assumption) | refine grow_base ?_ (by assumption)))⟩
    · go_wp2_with fail
      go_ret
      exact ⟨rfl, (by repeat (first | exact grow_refl _ | assumption | refine grow_alloc ?_ _ | refine grow_set ?_ (by first | exact Nat.le_refl _ | (simp; done) | (simp; omega) | omega) _ | refine grow_drewN ?_ _ | refine grow_drew ?_ | refine grow_step ?_ (by assumption) | refine grow_base ?_ (by assumption)))⟩
    · go_wp2_with fail
      clear c4 f4 l4
      refine (rChallenge_any _ _ _ _ (okM_pwI _ _) (okM_pwI _ _) HM.out).mono ?_
      rintro e w5 ⟨rfl, hb_w5⟩
      have B5 := (Box.new _ _ _).below hb_w5
      have D5 := (B4.below (grow_alloc (grow_refl _) _)).below hb_w5
      have c5 := B5.cell; have f5 := B5.frozen; have l5 := B5.lt
      go_wp2_with fail
      clear c5 f5 l5
      refine (rChallenge_any _ _ _ _ (okM_pwI _ _) (okM_pwI _ _) n0).mono ?_
      rintro e w6 ⟨rfl, hb_w6⟩
      have B6 := B5.below hb_w6
      have D6 := D5.below hb_w6
      have c6 := B6.cell; have d6 := D6.cell
      have HT := Lib.hid (seal_tells (chM (pwI 64 k) (pwI 64 x) m) (chM (pwI 64 k) (pwI 64 x) n) x k)
      have e1 : sealA x k m = (k + chM (pwI 64 k) (pwI 64 x) m * x) % 257 := rfl
      have e2 : sealA x k n = (k + chM (pwI 64 k) (pwI 64 x) n * x) % 257 := rfl
      rw [← e1, ← e2] at HT
      have E := Lib.hid (And.intro e1 e2)
      clear e1 e2
      obtain ⟨b1, b2⟩ := sealA_bd x k n
      obtain ⟨g1, g2⟩ := chM_bd (pwI 64 k) (pwI 64 x) m
      obtain ⟨g3, g4⟩ := chM_bd (pwI 64 k) (pwI 64 x) n
      obtain ⟨x1, x2⟩ := okSecret_yes HX.out
      obtain ⟨y1, y2⟩ := mulI_bd (x := chM (pwI 64 k) (pwI 64 x) m - chM (pwI 64 k) (pwI 64 x) n + 257) (y := x) (by omega) (by omega) (by omega) (by omega)
      go_wp2_with fail
      go_ret
      refine ⟨bool_lit ?_, (by repeat (first | exact grow_refl _ | assumption | refine grow_alloc ?_ _ | refine grow_set ?_ (by first | exact Nat.le_refl _ | (simp; done) | (simp; omega) | omega) _ | refine grow_drewN ?_ _ | refine grow_drew ?_ | refine grow_step ?_ (by assumption) | refine grow_base ?_ (by assumption)))⟩
      simp
      exact Int.tmod_eq_zero_of_dvd (Int.dvd_of_emod_eq_zero HT.out)

set_option maxRecDepth 100000 in
theorem keySeals_walks (H : Type) (enc : TypeId × Value → H) : Walks enc Try.prog 7 Try.f7 := by
  intro W base args ds p hval hA hlt hsz hsh
  have hsz0 := hsz
  rw [Try.params7] at hA hval
  obtain ⟨v0, vs0, d0, ds0, p0, q0, hargs, rfl, rfl, h0, r0⟩ := trodAll_cons hA
  obtain ⟨v1, vs1, d1, ds1, p1, q1, rfl, rfl, rfl, h1, r1⟩ := trodAll_cons r0
  obtain ⟨v2, vs2, d2, ds2, p2, q2, rfl, rfl, rfl, h2, r2⟩ := trodAll_cons r1
  obtain ⟨v3, vs3, d3, ds3, p3, q3, rfl, rfl, rfl, h3, r3⟩ := trodAll_cons r2
  obtain ⟨v4, vs4, d4, ds4, p4, q4, rfl, rfl, rfl, h4, r4⟩ := trodAll_cons r3
  obtain ⟨rfl, rfl, rfl⟩ := trodAll_nil r4
  obtain rfl : args = #[v0, v1, v2, v3, v4] := by cases args; simp_all
  obtain ⟨a0, rfl, w0⟩ := op_int (hval 0 3 v0 rfl rfl) h0
  obtain ⟨a1, rfl, w1⟩ := op_int (hval 1 3 v1 rfl rfl) h1
  obtain ⟨a2, rfl, w2⟩ := op_int (hval 2 3 v2 rfl rfl) h2
  obtain ⟨a3, rfl, w3⟩ := op_int (hval 3 3 v3 rfl rfl) h3
  obtain ⟨a4, rfl, w4⟩ := op_int (hval 4 3 v4 rfl rfl) h4
  exact keySeals_walk W a0 a1 a2 a3 a4 w0 w1 w2 w3 w4

set_option maxRecDepth 100000 in
theorem keySeals_lifted (os : Os) (started : os.Started) (H : Type) (enc : TypeId × Value → H) :
    ReturnsInHanded {} Try.checked os 7 .any (Rows.keySealsSpec.pre6 enc Try.prog Try.f7 Rows.keySealsRow.domain false) (Rows.keySealsSpec.post enc Try.prog Try.f7 false true false false) :=
  returns_of_walk (C := Try.checked) (s := Rows.keySealsSpec) own started (by kernel_rfl) Try.func7
    (ChangeSpec.witness6 (enc := enc) (C := Try.checked) false ⟨#[], #[.int .i64 0, .int .i64 0, .int .i64 0, .int .i64 0, .int .i64 0], []⟩ 8 (by kernel_rfl) (by kernel_rfl) (by kernel_rfl) (by kernel_rfl))
    laidOut (by kernel_rfl) (by kernel_rfl) Try.underlying4 rfl (fun ds h => by match ds, h with | [_, _, _, _, _], _ => rfl) (keySeals_walks H enc)

theorem keySeals_holds : Rows.KeySealsSaid :=
  OpenClaim.holds_of_wide 7 Try.f7 rfl rfl rfl rfl rfl rfl rfl ⟨rfl, rfl, rfl, rfl, rfl⟩ rfl rfl rfl rfl rfl (by kernel_rfl) Try.func7 (by kernel_rfl)
    (of_decide_eq_true (by kernel_rfl)) (by unfold Func.isWrapper; rw [if_neg (of_decide_eq_false (by kernel_rfl))]; exact ⟨rfl, rfl⟩)
    (fun os started H enc _ => keySeals_lifted os started H enc)

end Go.Proofs.Ytfklbifgjpocnaa
