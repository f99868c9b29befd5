/- QuoteFresh: a quote is right by its key for its number, and for no other one; it tells of its bank, and of each that is alike where it was asked; of one of which just one register it asks for went further it does not. The package variable errors.errorType holds what the program's text lays. -/
import Derived.Test.YtdjeajhkpkphbaaDoorRows
import Derived.Test.YtdjeajhkpkphbaaDoorOpen
import Derived.Test.YtdjeajhkpkphbaaDoorBank2
import Derived.Test.YtdjeajhkpkphbaaDoorBank3
import Derived.Test.YtdjeajhkpkphbaaDoorQuote
import Derived.Test.YtdjeajhkpkphbaaDoorQuote2
import Derived.Test.YtdjeajhkpkphbaaDoorCcPlain
import Derived.Test.YtdjeajhkpkphbaaDoorDigPlain
import Derived.Test.YtdjeajhkpkphbaaDoorTold
import Derived.Test.YtdjeajhkpkphbaaDoorBds
import Derived.Test.YtdjeajhkpkphbaaDoorLiftD
import Derived.WalkKit
import Derived.Lib.Hide
import Derived.Deep.CutRange
import Derived.Deep.DeepCutAuto
namespace Go.Proofs.YtdjeajhkpkphbaaDoor
open Go.ChangeShapes Go.WideShapes Go.ChangeAt Go.RowKit
set_option linter.unusedVariables false
set_option maxRecDepth 100000

theorem same_ok2 {a b : List Int} {m : Int} (h : sameE a b m = 0) : a.all okM = true ∧ b.all okM = true ∧ okMask m = true ∧ sameB a b m = (toldM a m == toldM b m) := by
  unfold sameE at h
  cases hb : (a.all okM && b.all okM && okMask m)
  · rw [hb] at h; exact absurd h (by decide)
  · have hb2 := hb
    simp only [Bool.and_eq_true] at hb2
    exact ⟨hb2.1.1, hb2.1.2, hb2.2, by unfold sameB; rw [hb, Bool.true_and]⟩
theorem lit_make : mkE 5 7 9 1 [0, 0, 0, 0, 0, 0, 0, 0] = 0 := by decide
theorem lit_made : ∃ d p a, mkV 5 7 9 1 [0, 0, 0, 0, 0, 0, 0, 0] = (9, 1, d, p, a) := ⟨_, _, _, by unfold mkV; rw [if_pos lit_make]⟩
/-- What a quote that is made is. -/
theorem make_ok {x k n m : Int} {b : List Int} (h : mkE x k n m b = 0) : okM n = true ∧ b.all okM = true ∧ okMask m = true ∧ okSecret x = true ∧ okM (isM b m) = true ∧
    mkV x k n m b = (n, m, isM b m, sgP x k (rowM [n, m, isM b m]), sgA x k (rowM [n, m, isM b m])) ∧ sgE x k (rowM [n, m, isM b m]) = 0 := by
  have hv : mkV x k n m b = (n, m, digM b m, sgP x k (rowM [n, m, digM b m]), sgA x k (rowM [n, m, digM b m])) := by unfold mkV; rw [if_pos h]
  unfold mkE at h
  cases hn : okM n
  · rw [hn, if_neg (by decide)] at h; exact absurd h (by decide)
  · rw [hn, if_pos rfl] at h
    by_cases hd : digE b m = 0
    · rw [if_pos hd] at h
      unfold digE at hd
      cases hb : (b.all okM && okMask m)
      · rw [hb] at hd; exact absurd hd (by decide)
      · obtain ⟨h1, h2⟩ := Bool.and_eq_true_iff.1 hb
        have hdm : digM b m = isM b m := by unfold digM; rw [hb, if_pos rfl]
        rw [hdm] at h hv
        refine ⟨rfl, h1, h2, ?_, by unfold isM; exact rowM_ok _, hv, h⟩
        unfold sgE at h
        cases ho : okSign x k (rowM [n, m, isM b m])
        · rw [ho] at h; exact absurd h (by decide)
        · unfold okSign at ho
          simp only [Bool.and_eq_true] at ho
          exact ho.1.1
    · rw [if_neg hd] at h; exact absurd h hd
theorem tells_of {d m : Int} {c : List Int} (hd : okM d = true) (hm : okMask m = true) (hc : c.all okM = true) : qtE d m c = 0 ∧ qtB d m c = (isM c m == d) := by
  have h1 : digM c m = isM c m := by unfold digM; rw [hc, hm]; rfl
  have h2 : digE c m = 0 := by unfold digE; rw [hc, hm]; rfl
  exact ⟨by unfold qtE; rw [hd, if_pos rfl, h2], by unfold qtB; rw [hd, h2, h1]; rfl⟩
theorem check_of {Q n m d p a c : Int} (hn : okM n = true) (hd : okM d = true) (hm : okMask m = true) (hr : rightE Q (rowM [n, m, d]) p a = 0) :
    qcE Q n m d p a c = if okM c then (if n = c then 0 else 7) else 1 := by
  unfold qcE qcOk
  rw [hn, hd, hm, hr]
  cases okM c <;> rfl

set_option maxHeartbeats 8000000 in
theorem quoteFresh_walk (w : World) (x0' k n m : Int) (x0 x1 x2 x3 x4 x5 x6 x7 : Int) (o : Int) (y0 y1 y2 y3 y4 y5 y6 y7 : Int) (i t0 : Int) (ix : I64 x0') (ikk : I64 k) (inn : I64 n) (im : I64 m) (io : I64 o) (ii : I64 i) (it : I64 t0) (hg : Door w) :
    Calls Tryd.prog 6 #[.int .i64 x0', .int .i64 k, .int .i64 n, .int .i64 m, .agg #[.int .i64 x0, .int .i64 x1, .int .i64 x2, .int .i64 x3, .int .i64 x4, .int .i64 x5, .int .i64 x6, .int .i64 x7], .int .i64 o, .agg #[.int .i64 y0, .int .i64 y1, .int .i64 y2, .int .i64 y3, .int .i64 y4, .int .i64 y5, .int .i64 y6, .int .i64 y7], .int .i64 i, .int .i64 t0] w fun e w' => e = .returned (.bool true) ∧ Below w.heap.size w w' := by
  have en := fun k w => err_neq k w
  have ee := fun k w => err_eql k w
  have gn := fun o k w => err_guard_neq o k w
  have ge := fun o k w => err_guard_eql o k w
  have HG := Lib.hid hg
  have HN := Lib.hid (((Box.new w 23 #[.int .i64 x0, .int .i64 x1, .int .i64 x2, .int .i64 x3, .int .i64 x4, .int .i64 x5, .int .i64 x6, .int .i64 x7]).alloc_ (.cells #[.int .i64 y0, .int .i64 y1, .int .i64 y2, .int .i64 y3, .int .i64 y4, .int .i64 y5, .int .i64 y6, .int .i64 y7] 23)).alloc_ (.cells #[.int .i64 0, .int .i64 0, .int .i64 0, .int .i64 0, .int .i64 0, .int .i64 0, .int .i64 0, .int .i64 0] 23))
  have HM : Hid (Box (((w.alloc (.cells #[.int .i64 x0, .int .i64 x1, .int .i64 x2, .int .i64 x3, .int .i64 x4, .int .i64 x5, .int .i64 x6, .int .i64 x7] 23)).alloc (.cells #[.int .i64 y0, .int .i64 y1, .int .i64 y2, .int .i64 y3, .int .i64 y4, .int .i64 y5, .int .i64 y6, .int .i64 y7] 23)).alloc (.cells #[.int .i64 0, .int .i64 0, .int .i64 0, .int .i64 0, .int .i64 0, .int .i64 0, .int .i64 0, .int .i64 0] 23)) (w.heap.size + 1) 23 #[.int .i64 y0, .int .i64 y1, .int .i64 y2, .int .i64 y3, .int .i64 y4, .int .i64 y5, .int .i64 y6, .int .i64 y7]) := Lib.hid (by
    have h := (Box.new (w.alloc (.cells #[.int .i64 x0, .int .i64 x1, .int .i64 x2, .int .i64 x3, .int .i64 x4, .int .i64 x5, .int .i64 x6, .int .i64 x7] 23)) 23 #[.int .i64 y0, .int .i64 y1, .int .i64 y2, .int .i64 y3, .int .i64 y4, .int .i64 y5, .int .i64 y6, .int .i64 y7]).alloc_ (.cells #[.int .i64 0, .int .i64 0, .int .i64 0, .int .i64 0, .int .i64 0, .int .i64 0, .int .i64 0, .int .i64 0] 23)
    have e : (w.alloc (.cells #[.int .i64 x0, .int .i64 x1, .int .i64 x2, .int .i64 x3, .int .i64 x4, .int .i64 x5, .int .i64 x6, .int .i64 x7] 23)).heap.size = w.heap.size + 1 := by simp
    rw [e] at h; exact h)
  have HO : Hid (Box (((w.alloc (.cells #[.int .i64 x0, .int .i64 x1, .int .i64 x2, .int .i64 x3, .int .i64 x4, .int .i64 x5, .int .i64 x6, .int .i64 x7] 23)).alloc (.cells #[.int .i64 y0, .int .i64 y1, .int .i64 y2, .int .i64 y3, .int .i64 y4, .int .i64 y5, .int .i64 y6, .int .i64 y7] 23)).alloc (.cells #[.int .i64 0, .int .i64 0, .int .i64 0, .int .i64 0, .int .i64 0, .int .i64 0, .int .i64 0, .int .i64 0] 23)) (w.heap.size + 2) 23 #[.int .i64 0, .int .i64 0, .int .i64 0, .int .i64 0, .int .i64 0, .int .i64 0, .int .i64 0, .int .i64 0]) := Lib.hid (by
    have h := Box.new ((w.alloc (.cells #[.int .i64 x0, .int .i64 x1, .int .i64 x2, .int .i64 x3, .int .i64 x4, .int .i64 x5, .int .i64 x6, .int .i64 x7] 23)).alloc (.cells #[.int .i64 y0, .int .i64 y1, .int .i64 y2, .int .i64 y3, .int .i64 y4, .int .i64 y5, .int .i64 y6, .int .i64 y7] 23)) 23 #[.int .i64 0, .int .i64 0, .int .i64 0, .int .i64 0, .int .i64 0, .int .i64 0, .int .i64 0, .int .i64 0]
    have e : ((w.alloc (.cells #[.int .i64 x0, .int .i64 x1, .int .i64 x2, .int .i64 x3, .int .i64 x4, .int .i64 x5, .int .i64 x6, .int .i64 x7] 23)).alloc (.cells #[.int .i64 y0, .int .i64 y1, .int .i64 y2, .int .i64 y3, .int .i64 y4, .int .i64 y5, .int .i64 y6, .int .i64 y7] 23)).heap.size = w.heap.size + 2 := by simp
    rw [e] at h; exact h)
  obtain ⟨d1, p1, a1, hlm⟩ := lit_made
  have L1 := Lib.hid lit_make
  have L2 := Lib.hid hlm
  clear hlm
  obtain ⟨B, hB⟩ : ∃ B, [x0, x1, x2, x3, x4, x5, x6, x7] = B := ⟨_, rfl⟩
  obtain ⟨C, hC⟩ : ∃ C, [y0, y1, y2, y3, y4, y5, y6, y7] = C := ⟨_, rfl⟩
  have HB := Lib.hid hB
  have HC := Lib.hid hC
  have HB8 : Hid (B.length = 8) := Lib.hid (by rw [← hB]; rfl)
  clear hg hB hC
  go_enter Tryd.func6, Tryd.ntmps6
  have cO := HO.out.cell
  have lO := HO.out.lt
  go_wp2_with fail
  clear cO
  refine (quoteMake_any 5 7 9 1 0 0 0 0 0 0 0 0 _).mono ?_
  rintro e w1 ⟨he, hb1⟩
  obtain rfl := he _ L2.out.symm
  clear he
  rw [L1.out]
  simp only
  have BB1 := Lib.hid (HN.out.below hb1)
  have BC1 := Lib.hid (HM.out.below hb1)
  have cB := BB1.out.cell
  have lB := BB1.out.lt
  go_wp2_with fail
  clear cB
  refine (quoteMake_any x0' k n m x0 x1 x2 x3 x4 x5 x6 x7 _).mono ?_
  rintro e w3 ⟨he, hb3⟩
  rw [HB.out] at he
  have BB3 := Lib.hid ((BB1.out.alloc_ _).below hb3)
  have BC3 := Lib.hid ((BC1.out.alloc_ _).below hb3)
  obtain ⟨E, hE⟩ : ∃ E, mkE x0' k n m B = E := ⟨_, rfl⟩
  have HE := Lib.hid hE
  by_cases h0 : E = 0
  · have t : (E != 0) = false := by simp [h0]
    have HK := Lib.hid (make_ok (HE.out.trans h0))
    obtain rfl := he _ HK.out.2.2.2.2.2.1.symm
    clear he
    rw [hE]
    clear hE
    subst h0
    simp only
    obtain ⟨R, hR⟩ : ∃ R, rowM [n, m, isM B m] = R := ⟨_, rfl⟩
    obtain ⟨D, hD⟩ : ∃ D, isM B m = D := ⟨_, rfl⟩
    rw [hD] at hR HK ⊢
    rw [hR] at HK ⊢
    obtain ⟨P, hP⟩ : ∃ P, sgP x0' k R = P := ⟨_, rfl⟩
    obtain ⟨A0, hA0⟩ : ∃ A0, sgA x0' k R = A0 := ⟨_, rfl⟩
    have hmr := made_right HK.out.2.2.2.1 HK.out.2.2.2.2.2.2
    rw [hP, hA0] at hmr ⊢
    have HDD := Lib.hid hD
    have HCk : Hid (∀ c, qcE (pwI 64 x0') n m D P A0 c = if okM c then (if n = c then 0 else 7) else 1) := Lib.hid (fun c => check_of HK.out.1 HK.out.2.2.2.2.1 HK.out.2.2.1 (by rw [hR]; exact hmr))
    have HTl : Hid (∀ c : List Int, c.all okM = true → qtE D m c = 0 ∧ qtB D m c = (isM c m == D)) := Lib.hid (fun c hc => tells_of HK.out.2.2.2.2.1 HK.out.2.2.1 hc)
    have HPu : Hid (pubM x0' = pwI 64 x0' ∧ pubE x0' = 0) := Lib.hid ⟨pubM_yes HK.out.2.2.2.1, pubE_yes HK.out.2.2.2.1⟩
    clear hR hD hP hA0 hmr
    go_wp2_with fail
    have BX := Lib.hid (Box.new w3 41 #[.int .i64 n, .int .i64 m, .int .i64 D, .int .i64 P, .int .i64 A0])
    have lB3 := BB3.out.lt
    have lC3 := BC3.out.lt
    refine (public_any x0' _).mono ?_
    rintro e w4 ⟨rfl, rfl⟩
    rw [HPu.out.1, HPu.out.2]
    have cX := BX.out.cell
    have lX := BX.out.lt
    go_wp2_with fail
    clear cX
    refine (quoteCheck_any _ n m D P A0 n _).mono ?_
    rintro e w5 ⟨rfl, hb5⟩
    rw [HCk.out, HK.out.1, if_pos rfl, if_pos rfl]
    have BB5 := Lib.hid ((BB3.out.alloc_ _).below hb5)
    have BC5 := Lib.hid ((BC3.out.alloc_ _).below hb5)
    have BX5 := Lib.hid (BX.out.below hb5)
    have cX := BX5.out.cell
    have lX5 := BX5.out.lt
    go_wp2_with fail
    clear cX
    refine (quoteCheck_any _ n m D P A0 o _).mono ?_
    rintro e w6 ⟨rfl, hb6⟩
    rw [HCk.out]
    have BB6 := Lib.hid (BB5.out.below hb6)
    have BC6 := Lib.hid (BC5.out.below hb6)
    have BX6 := Lib.hid (BX5.out.below hb6)
    obtain ⟨F, hF⟩ : ∃ F, (if okM o then (if n = o then (0 : Int) else 7) else 1) = F := ⟨_, rfl⟩
    rw [hF]
    have HF := Lib.hid hF
    clear hF
    go_upto_region 12 with fail
    go_cut [106] (fun t wx => t = .bool false ∧ Below w.heap.size w wx ∧ Hid (Box wx w.heap.size 23 #[.int .i64 x0, .int .i64 x1, .int .i64 x2, .int .i64 x3, .int .i64 x4, .int .i64 x5, .int .i64 x6, .int .i64 x7]) ∧ Hid (Box wx (w.heap.size + 1) 23 #[.int .i64 y0, .int .i64 y1, .int .i64 y2, .int .i64 y3, .int .i64 y4, .int .i64 y5, .int .i64 y6, .int .i64 y7]) ∧ Hid (Box wx w3.heap.size 41 #[.int .i64 n, .int .i64 m, .int .i64 D, .int .i64 P, .int .i64 A0]))
    case first =>
      by_cases hon : o = n
      · have t1 : (o != n) = false := by simp [hon]
        have HF0 : Hid (F = 0) := Lib.hid (by rw [← HF.out, hon, HK.out.1, if_pos rfl, if_pos rfl])
        have tF : (F == 0) = true := by rw [HF0.out]; rfl
        clear hon
        by_cases h1 : 0 ≤ o
        · by_cases h2 : o < 1000003
          · go_wp2_with fail
            go_meet
            exact ⟨rfl, (by repeat (first | (with_reducible exact grow_refl _) | (with_reducible assumption) | (with_reducible refine grow_alloc ?_ _) | (with_reducible refine grow_set ?_ (by first | exact Nat.le_refl _ | (simp; done) | (simp; omega) | omega) _) | (with_reducible refine grow_drewN ?_ _) | (with_reducible refine grow_drew ?_) | (with_reducible refine grow_step ?_ (by assumption)) | (with_reducible refine grow_base ?_ (by assumption)))), BB6, BC6, BX6⟩
          · go_wp2_with fail
            go_meet
            exact ⟨rfl, (by repeat (first | (with_reducible exact grow_refl _) | (with_reducible assumption) | (with_reducible refine grow_alloc ?_ _) | (with_reducible refine grow_set ?_ (by first | exact Nat.le_refl _ | (simp; done) | (simp; omega) | omega) _) | (with_reducible refine grow_drewN ?_ _) | (with_reducible refine grow_drew ?_) | (with_reducible refine grow_step ?_ (by assumption)) | (with_reducible refine grow_base ?_ (by assumption)))), BB6, BC6, BX6⟩
        · go_wp2_with fail
          go_meet
          exact ⟨rfl, (by repeat (first | (with_reducible exact grow_refl _) | (with_reducible assumption) | (with_reducible refine grow_alloc ?_ _) | (with_reducible refine grow_set ?_ (by first | exact Nat.le_refl _ | (simp; done) | (simp; omega) | omega) _) | (with_reducible refine grow_drewN ?_ _) | (with_reducible refine grow_drew ?_) | (with_reducible refine grow_step ?_ (by assumption)) | (with_reducible refine grow_base ?_ (by assumption)))), BB6, BC6, BX6⟩
      · have t1 : (o != n) = true := by simp [hon]
        cases hok : okM o
        · have HF0 : Hid (F = 1) := Lib.hid (by rw [← HF.out, hok]; rfl)
          have tF : (F == 0) = false := by rw [HF0.out]; rfl
          have h3 := okM_no hok
          clear hon hok
          by_cases h1 : 0 ≤ o
          · have h2 : ¬ o < 1000003 := by omega
            go_wp2_with fail
            go_meet
            exact ⟨rfl, (by repeat (first | (with_reducible exact grow_refl _) | (with_reducible assumption) | (with_reducible refine grow_alloc ?_ _) | (with_reducible refine grow_set ?_ (by first | exact Nat.le_refl _ | (simp; done) | (simp; omega) | omega) _) | (with_reducible refine grow_drewN ?_ _) | (with_reducible refine grow_drew ?_) | (with_reducible refine grow_step ?_ (by assumption)) | (with_reducible refine grow_base ?_ (by assumption)))), BB6, BC6, BX6⟩
          · go_wp2_with fail
            go_meet
            exact ⟨rfl, (by repeat (first | (with_reducible exact grow_refl _) | (with_reducible assumption) | (with_reducible refine grow_alloc ?_ _) | (with_reducible refine grow_set ?_ (by first | exact Nat.le_refl _ | (simp; done) | (simp; omega) | omega) _) | (with_reducible refine grow_drewN ?_ _) | (with_reducible refine grow_drew ?_) | (with_reducible refine grow_step ?_ (by assumption)) | (with_reducible refine grow_base ?_ (by assumption)))), BB6, BC6, BX6⟩
        · have HF0 : Hid (F = 7) := Lib.hid (by rw [← HF.out, hok, if_pos rfl, if_neg (fun h => hon h.symm)])
          have tF : (F == 0) = false := by rw [HF0.out]; rfl
          have tG : (F == 7) = true := by rw [HF0.out]; rfl
          obtain ⟨h1, h2⟩ := okM_yes hok
          clear hon hok
          go_wp2_with fail
          refine (error_any F 7 _ (HG.out.below (by repeat (first | (with_reducible exact grow_refl _) | (with_reducible assumption) | (with_reducible refine grow_alloc ?_ _) | (with_reducible refine grow_set ?_ (by first | exact Nat.le_refl _ | (simp; done) | (simp; omega) | omega) _) | (with_reducible refine grow_drewN ?_ _) | (with_reducible refine grow_drew ?_) | (with_reducible refine grow_step ?_ (by assumption)) | (with_reducible refine grow_base ?_ (by assumption))))) (by rw [HF0.out]; exact i64_small (by decide) (by decide))).mono ?_
          rintro e w7 ⟨rfl, hb7⟩
          rw [tG]
          clear tG
          have BB7 := Lib.hid (BB6.out.below hb7)
          have BC7 := Lib.hid (BC6.out.below hb7)
          have BX7 := Lib.hid (BX6.out.below hb7)
          go_wp2_with fail
          go_meet
          exact ⟨rfl, (by repeat (first | (with_reducible exact grow_refl _) | (with_reducible assumption) | (with_reducible refine grow_alloc ?_ _) | (with_reducible refine grow_set ?_ (by first | exact Nat.le_refl _ | (simp; done) | (simp; omega) | omega) _) | (with_reducible refine grow_drewN ?_ _) | (with_reducible refine grow_drew ?_) | (with_reducible refine grow_step ?_ (by assumption)) | (with_reducible refine grow_base ?_ (by assumption)))), BB7, BC7, BX7⟩
    case rest =>
    obtain ⟨rfl, hb8, BB8, BC8, BX8⟩ := hcut
    have HTB : Hid (qtE D m B = 0 ∧ qtB D m B = true) := Lib.hid (by
      have h := HTl.out B HK.out.2.1
      exact ⟨h.1, by rw [h.2, HDD.out]; simp⟩)
    have cX := BX8.out.cell
    have lX8 := BX8.out.lt
    have cB := BB8.out.cell
    have lB8 := BB8.out.lt
    go_wp2_with fail
    clear cX cB
    refine (quoteTells_any n m D P A0 x0 x1 x2 x3 x4 x5 x6 x7 _).mono ?_
    rintro e w9 ⟨rfl, hb9⟩
    rw [HB.out, HTB.out.1, HTB.out.2]
    have BB9 := Lib.hid (BB8.out.below hb9)
    have BC9 := Lib.hid (BC8.out.below hb9)
    have BX9 := Lib.hid (BX8.out.below hb9)
    have cB := BB9.out.cell
    have lB9 := BB9.out.lt
    have cC := BC9.out.cell
    have lC9 := BC9.out.lt
    go_wp2_with fail
    clear cB cC
    refine (same_any x0 x1 x2 x3 x4 x5 x6 x7 y0 y1 y2 y3 y4 y5 y6 y7 m _).mono ?_
    rintro e w10 ⟨rfl, hb10⟩
    rw [HB.out, HC.out]
    have BB10 := Lib.hid (BB9.out.below hb10)
    have BC10 := Lib.hid (BC9.out.below hb10)
    have BX10 := Lib.hid (BX9.out.below hb10)
    obtain ⟨S, hS⟩ : ∃ S, sameB B C m = S := ⟨_, rfl⟩
    obtain ⟨E2, hE2⟩ : ∃ E2, sameE B C m = E2 := ⟨_, rfl⟩
    rw [hS, hE2]
    have HS := Lib.hid hS
    have HE2 := Lib.hid hE2
    clear hS hE2
    go_upto_region 18 with fail
    go_cut [130] (fun t wx => ∃ Tb : Bool, t = .bool Tb ∧ Hid (Tb = true → C.all okM = true ∧ isM C m = D) ∧ Below w.heap.size w wx ∧ Hid (Box wx w.heap.size 23 #[.int .i64 x0, .int .i64 x1, .int .i64 x2, .int .i64 x3, .int .i64 x4, .int .i64 x5, .int .i64 x6, .int .i64 x7]) ∧ Hid (Box wx (w.heap.size + 1) 23 #[.int .i64 y0, .int .i64 y1, .int .i64 y2, .int .i64 y3, .int .i64 y4, .int .i64 y5, .int .i64 y6, .int .i64 y7]) ∧ Hid (Box wx w3.heap.size 41 #[.int .i64 n, .int .i64 m, .int .i64 D, .int .i64 P, .int .i64 A0]))
    case first =>
      by_cases h2 : E2 = 0
      · have t2 : (E2 == 0) = true := by simp [h2]
        have HSO := Lib.hid (same_ok2 (HE2.out.trans h2))
        have HIm : Hid (S = true → C.all okM = true ∧ isM C m = D) := Lib.hid (fun h => ⟨HSO.out.2.1, by rw [← HDD.out]; exact (dig_alike (by rw [← HSO.out.2.2.2, HS.out]; exact h)).symm⟩)
        clear h2
        go_wp2_with fail
        go_meet
        exact ⟨S, rfl, HIm, (by repeat (first | (with_reducible exact grow_refl _) | (with_reducible assumption) | (with_reducible refine grow_alloc ?_ _) | (with_reducible refine grow_set ?_ (by first | exact Nat.le_refl _ | (simp; done) | (simp; omega) | omega) _) | (with_reducible refine grow_drewN ?_ _) | (with_reducible refine grow_drew ?_) | (with_reducible refine grow_step ?_ (by assumption)) | (with_reducible refine grow_base ?_ (by assumption)))), BB10, BC10, BX10⟩
      · have t2 : (E2 == 0) = false := by simpa using h2
        clear h2
        go_wp2_with fail
        go_meet
        exact ⟨false, rfl, Lib.hid (fun h => absurd h (by decide)), (by repeat (first | (with_reducible exact grow_refl _) | (with_reducible assumption) | (with_reducible refine grow_alloc ?_ _) | (with_reducible refine grow_set ?_ (by first | exact Nat.le_refl _ | (simp; done) | (simp; omega) | omega) _) | (with_reducible refine grow_drewN ?_ _) | (with_reducible refine grow_drew ?_) | (with_reducible refine grow_step ?_ (by assumption)) | (with_reducible refine grow_base ?_ (by assumption)))), BB10, BC10, BX10⟩
    case rest =>
    obtain ⟨Tb, rfl, HT, hb11, BB11, BC11, BX11⟩ := hcut
    go_upto_if 130 with fail
    go_cut [29, 30] (fun _ _ wx => Below w.heap.size w wx ∧ Hid (Box wx w.heap.size 23 #[.int .i64 x0, .int .i64 x1, .int .i64 x2, .int .i64 x3, .int .i64 x4, .int .i64 x5, .int .i64 x6, .int .i64 x7]) ∧ Hid (Box wx w3.heap.size 41 #[.int .i64 n, .int .i64 m, .int .i64 D, .int .i64 P, .int .i64 A0]))
    case first =>
      cases Tb
      · go_wp2_with fail
        go_meet
        exact ⟨(by repeat (first | (with_reducible exact grow_refl _) | (with_reducible assumption) | (with_reducible refine grow_alloc ?_ _) | (with_reducible refine grow_set ?_ (by first | exact Nat.le_refl _ | (simp; done) | (simp; omega) | omega) _) | (with_reducible refine grow_drewN ?_ _) | (with_reducible refine grow_drew ?_) | (with_reducible refine grow_step ?_ (by assumption)) | (with_reducible refine grow_base ?_ (by assumption)))), BB11, BX11⟩
      · have HT2 := Lib.hid (HT.out rfl)
        have HOC : Hid (qtE D m C = 0 ∧ qtB D m C = true) := Lib.hid (by
          have h := HTl.out C HT2.out.1
          exact ⟨h.1, by rw [h.2, HT2.out.2]; simp⟩)
        have cC := BC11.out.cell
        have lC := BC11.out.lt
        have cX := BX11.out.cell
        have lX := BX11.out.lt
        go_wp2_with fail
        clear cC cX
        refine (quoteTells_any n m D P A0 y0 y1 y2 y3 y4 y5 y6 y7 _).mono ?_
        rintro e w12 ⟨rfl, hb12⟩
        rw [HC.out, HOC.out.1, HOC.out.2]
        have BB12 := Lib.hid (BB11.out.below hb12)
        have BX12 := Lib.hid (BX11.out.below hb12)
        go_wp2_with fail
        go_meet
        exact ⟨(by repeat (first | (with_reducible exact grow_refl _) | (with_reducible assumption) | (with_reducible refine grow_alloc ?_ _) | (with_reducible refine grow_set ?_ (by first | exact Nat.le_refl _ | (simp; done) | (simp; omega) | omega) _) | (with_reducible refine grow_drewN ?_ _) | (with_reducible refine grow_drew ?_) | (with_reducible refine grow_step ?_ (by assumption)) | (with_reducible refine grow_base ?_ (by assumption)))), BB12, BX12⟩
    case rest =>
    obtain ⟨hb13, BB13, BX13⟩ := hcut
    have cB := BB13.out.cell
    have lB13 := BB13.out.lt
    go_wp2_with fail
    clear cB
    refine (extend_any x0 x1 x2 x3 x4 x5 x6 x7 i t0 _).mono ?_
    rintro e w14 ⟨z0, z1, z2, z3, z4, z5, z6, z7, hz, rfl, hb14⟩
    rw [HB.out] at hz ⊢
    have HZ := Lib.hid hz
    clear hz
    have BB14 := Lib.hid (BB13.out.below hb14)
    have BX14 := Lib.hid (BX13.out.below hb14)
    cases ho : extOk B i t0
    · have HXE := Lib.hid (ext_no ho).2
      clear ho
      rw [HXE.out]
      go_wp2_with fail
      go_ret
      exact ⟨rfl, (by repeat (first | (with_reducible exact grow_refl _) | (with_reducible assumption) | (with_reducible refine grow_alloc ?_ _) | (with_reducible refine grow_set ?_ (by first | exact Nat.le_refl _ | (simp; done) | (simp; omega) | omega) _) | (with_reducible refine grow_drewN ?_ _) | (with_reducible refine grow_drew ?_) | (with_reducible refine grow_step ?_ (by assumption)) | (with_reducible refine grow_base ?_ (by assumption))))⟩
    · have hy := ext_yes ho
      have HXE := Lib.hid hy.2
      have ho2 := ho
      unfold extOk at ho2
      simp only [Bool.and_eq_true] at ho2
      obtain ⟨⟨hall, hr⟩, hk⟩ := ho2
      have hr' := okReg_yes hr
      obtain ⟨r, hri⟩ : ∃ r : Nat, i = (r : Int) := ⟨i.toNat, by omega⟩
      have hr8 : r < 8 := by omega
      obtain ⟨v, hv⟩ : ∃ v, pairM (B.getD r 0) t0 = v := ⟨_, rfl⟩
      have hd : [z0, z1, z2, z3, z4, z5, z6, z7] = B.set r v := by rw [HZ.out, hy.1, hri, Int.toNat_natCast, hv]
      have okv : okM v = true := by rw [← hv]; exact pairM_ok _ _
      have hdok : (B.set r v).all okM = true := all_set hall okv
      have HD := Lib.hid hd
      have HS2 : Hid (sameE B (B.set r v) m = 0 ∧ sameB B (B.set r v) m = (toldM B m == toldM (B.set r v) m)) := Lib.hid (by
        have e : sameE B (B.set r v) m = 0 := by unfold sameE; rw [hall, hdok, HK.out.2.2.1]; rfl
        exact ⟨e, (same_ok2 e).2.2.2⟩)
      have HOD : Hid (qtE D m (B.set r v) = 0 ∧ qtB D m (B.set r v) = (toldM B m == toldM (B.set r v) m)) := Lib.hid (by
        have h := HTl.out (B.set r v) hdok
        refine ⟨h.1, ?_⟩
        rw [h.2, ← HDD.out]
        cases hal : (toldM B m == toldM (B.set r v) m)
        · have := dig_apart hall HB8.out hr8 okv hal
          simpa using fun h => this h.symm
        · rw [dig_alike hal]; simp)
      clear ho hy hall hr hk hr' hri hr8 hv hd okv hdok
      rw [HXE.out]
      have cB := BB14.out.cell
      have lB14 := BB14.out.lt
      have lX14 := BX14.out.lt
      go_wp2_with fail
      have BD := Lib.hid (Box.new w14 23 #[.int .i64 z0, .int .i64 z1, .int .i64 z2, .int .i64 z3, .int .i64 z4, .int .i64 z5, .int .i64 z6, .int .i64 z7])
      clear cB
      refine (same_any x0 x1 x2 x3 x4 x5 x6 x7 z0 z1 z2 z3 z4 z5 z6 z7 m _).mono ?_
      rintro e w15 ⟨rfl, hb15⟩
      rw [HB.out, HD.out, HS2.out.1, HS2.out.2]
      have BX15 := Lib.hid ((BX14.out.alloc_ _).below hb15)
      have BD15 := Lib.hid (BD.out.below hb15)
      have cX := BX15.out.cell
      have lX := BX15.out.lt
      have cD := BD15.out.cell
      have lD := BD15.out.lt
      obtain ⟨Al, hAl⟩ : ∃ Al, (toldM B m == toldM (B.set r v) m) = Al := ⟨_, rfl⟩
      rw [hAl] at HOD ⊢
      clear hAl
      go_wp2_with fail
      clear cX cD
      refine (quoteTells_any n m D P A0 z0 z1 z2 z3 z4 z5 z6 z7 _).mono ?_
      rintro e w16 ⟨rfl, hb16⟩
      rw [HD.out, HOD.out.1, HOD.out.2]
      go_wp2_with fail
      go_ret
      exact ⟨bool_lit (by simp), (by repeat (first | (with_reducible exact grow_refl _) | (with_reducible assumption) | (with_reducible refine grow_alloc ?_ _) | (with_reducible refine grow_set ?_ (by first | exact Nat.le_refl _ | (simp; done) | (simp; omega) | omega) _) | (with_reducible refine grow_drewN ?_ _) | (with_reducible refine grow_drew ?_) | (with_reducible refine grow_step ?_ (by assumption)) | (with_reducible refine grow_base ?_ (by assumption))))⟩
  · have t : (E != 0) = true := by simpa using h0
    obtain rfl := he _ rfl
    clear he
    rw [hE]
    clear h0 hE
    go_wp2_with fail
    go_ret
    exact ⟨rfl, (by repeat (first | (with_reducible exact grow_refl _) | (with_reducible assumption) | (with_reducible refine grow_alloc ?_ _) | (with_reducible refine grow_set ?_ (by first | exact Nat.le_refl _ | (simp; done) | (simp; omega) | omega) _) | (with_reducible refine grow_drewN ?_ _) | (with_reducible refine grow_drew ?_) | (with_reducible refine grow_step ?_ (by assumption)) | (with_reducible refine grow_base ?_ (by assumption))))⟩

set_option maxRecDepth 100000 in
theorem quoteFresh_walks (H : Type) (enc : TypeId × Value → H) : WalksD enc Tryd.prog Door 6 Tryd.f6 := by
  intro W base args ds p hval hA hlt hsz hsh hdoor
  have hsz0 := hsz
  rw [Tryd.params6] at hA hval
  obtain ⟨v0, vs0, d0, ds0, p0, q0, hargs, rfl, rfl, h0, r0⟩ := trodAll_cons hA
  obtain ⟨v1, vs1, d1, ds1, p1, q1, rfl, rfl, rfl, h1, r1⟩ := trodAll_cons r0
  obtain ⟨v2, vs2, d2, ds2, p2, q2, rfl, rfl, rfl, h2, r2⟩ := trodAll_cons r1
  obtain ⟨v3, vs3, d3, ds3, p3, q3, rfl, rfl, rfl, h3, r3⟩ := trodAll_cons r2
  obtain ⟨v4, vs4, d4, ds4, p4, q4, rfl, rfl, rfl, h4, r4⟩ := trodAll_cons r3
  obtain ⟨v5, vs5, d5, ds5, p5, q5, rfl, rfl, rfl, h5, r5⟩ := trodAll_cons r4
  obtain ⟨v6, vs6, d6, ds6, p6, q6, rfl, rfl, rfl, h6, r6⟩ := trodAll_cons r5
  obtain ⟨v7, vs7, d7, ds7, p7, q7, rfl, rfl, rfl, h7, r7⟩ := trodAll_cons r6
  obtain ⟨v8, vs8, d8, ds8, p8, q8, rfl, rfl, rfl, h8, r8⟩ := trodAll_cons r7
  obtain ⟨rfl, rfl, rfl⟩ := trodAll_nil r8
  obtain rfl : args = #[v0, v1, v2, v3, v4, v5, v6, v7, v8] := by cases args; simp_all
  obtain ⟨a0, rfl, w0⟩ := op_int (hval 0 3 v0 rfl rfl) h0
  obtain ⟨a1, rfl, w1⟩ := op_int (hval 1 3 v1 rfl rfl) h1
  obtain ⟨a2, rfl, w2⟩ := op_int (hval 2 3 v2 rfl rfl) h2
  obtain ⟨a3, rfl, w3⟩ := op_int (hval 3 3 v3 rfl rfl) h3
  obtain ⟨x40, x41, x42, x43, x44, x45, x46, x47, rfl, i40, i41, i42, i43, i44, i45, i46, i47⟩ := op_bank (hval 4 23 v4 rfl rfl)
  obtain ⟨a5, rfl, w5⟩ := op_int (hval 5 3 v5 rfl rfl) h5
  obtain ⟨x60, x61, x62, x63, x64, x65, x66, x67, rfl, i60, i61, i62, i63, i64, i65, i66, i67⟩ := op_bank (hval 6 23 v6 rfl rfl)
  obtain ⟨a7, rfl, w7⟩ := op_int (hval 7 3 v7 rfl rfl) h7
  obtain ⟨a8, rfl, w8⟩ := op_int (hval 8 3 v8 rfl rfl) h8
  exact quoteFresh_walk W a0 a1 a2 a3 x40 x41 x42 x43 x44 x45 x46 x47 a5 x60 x61 x62 x63 x64 x65 x66 x67 a7 a8 w0 w1 w2 w3 w5 w7 w8 hdoor

set_option maxRecDepth 100000 in
theorem quoteFresh_lifted (os : Os) (started : os.Started) (H : Type) (enc : TypeId × Value → H) :
    ReturnsInHanded {} Tryd.checked os 6 .any (fun w args => (Rows.quoteFreshSpec.pre enc Tryd.checked.prog Tryd.f6 [] false w args ∧ laidMetH Tryd.checked.prog LaidD w) ∧ sizedMet enc Tryd.checked.prog Tryd.f6 (OpenSpec.ofChange Rows.quoteFreshSpec) false w args) (Rows.quoteFreshSpec.post enc Tryd.checked.prog Tryd.f6 false true false false) :=
  returns_of_walkD (C := Tryd.checked) (s := Rows.quoteFreshSpec) (L := LaidD) (D := Door) own started (by kernel_rfl) Tryd.func6
    (ChangeSpec.witness_at (enc := enc) (C := Tryd.checked) (os := os) (X := fun w _ => laidMetH Tryd.prog LaidD w) false (laidWorld os) #[.int .i64 0, .int .i64 0, .int .i64 0, .int .i64 0, .agg #[.int .i64 0, .int .i64 0, .int .i64 0, .int .i64 0, .int .i64 0, .int .i64 0, .int .i64 0, .int .i64 0], .int .i64 0, .agg #[.int .i64 0, .int .i64 0, .int .i64 0, .int .i64 0, .int .i64 0, .int .i64 0, .int .i64 0, .int .i64 0], .int .i64 0, .int .i64 0] 8 rfl (by kernel_rfl) (by kernel_rfl) (by kernel_rfl) (by kernel_rfl) (by kernel_rfl) (laidWorld_met os _))
    (fun W h => door_of_laid h) laidOut (by kernel_rfl) rfl Tryd.underlying4 rfl (fun ds h => by match ds, h with | [_, _, _, _, _, _, _, _, _], _ => rfl) (quoteFresh_walks H enc)

theorem quoteFresh_bare : Rows.QuoteFreshSaid :=
  OpenClaim.holds_of_wide 6 Tryd.f6 rfl rfl rfl rfl rfl rfl rfl ⟨rfl, rfl, rfl, rfl, rfl⟩ rfl rfl rfl rfl rfl (by kernel_rfl) Tryd.func6 (by kernel_rfl)
    (of_decide_eq_true (by kernel_rfl)) (by unfold Func.isWrapper; rw [if_neg (of_decide_eq_false (by kernel_rfl))]; exact ⟨rfl, rfl⟩)
    (fun os started H enc _ => quoteFresh_lifted os started H enc)

theorem quoteFresh_holds : Rows.QuoteFreshCardSaid :=
  Claim7.holds_tied_plain_at .later [] [.handle] true Rows.quoteFreshCard.stood.harness true
    quoteFresh_bare (fun _ h => by cases h) (by kernel_rfl) (fun _ h => by cases h) quoteFresh_row_tie rfl ⟨rfl, rfl⟩ (by kernel_rfl) rfl
    (fun f fn hf hfn => by
      obtain rfl : f = 6 := Option.some.inj ((show Tryd.prog.funcNamed "bootstair/stairlaw1.QuoteFresh" = some 6 by kernel_rfl).symm.trans hf) |>.symm
      obtain rfl : fn = Tryd.f6 := (Option.some.inj (Tryd.func6.symm.trans hfn)).symm
      exact ⟨by kernel_rfl, fun j t ht => by
        have hm : t ∈ Tryd.f6.params.toList := by simpa using Array.mem_of_getElem? ht
        have hall : (Tryd.f6.params.toList.all fun u => !Tryd.prog.wantsStandIn u) = true := by kernel_rfl
        exact (show Tryd.prog.wantsStandIn t = false by simpa using List.all_eq_true.1 hall t hm)⟩)
    (by kernel_rfl)

end Go.Proofs.YtdjeajhkpkphbaaDoor
