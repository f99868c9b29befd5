/- BankTells: what is wrong with any bank, any extended, any digest, and whether any two are alike: the program's is the reference's. The package variable errors.errorType holds what the program's text lays. -/
import Derived.Test.YtebecndmlgolpaaDoorRows
import Derived.Test.YtebecndmlgolpaaDoorOpen
import Derived.Test.YtebecndmlgolpaaDoorEq8
import Derived.Test.YtebecndmlgolpaaDoorBank2
import Derived.Test.YtebecndmlgolpaaDoorBank3
import Derived.Test.YtebecndmlgolpaaDoorAlike
import Derived.Test.YtebecndmlgolpaaDoorRefB
import Derived.Test.YtebecndmlgolpaaDoorTold
import Derived.Test.YtebecndmlgolpaaDoorBds
import Derived.Test.YtebecndmlgolpaaDoorLiftD
import Derived.WalkKit
import Derived.Lib.Hide
import Derived.Deep.CutRange
import Derived.Deep.DeepCutAuto
import Derived.Deep.QuietTactic
import Derived.BigQuiet
namespace Go.Proofs.YtebecndmlgolpaaDoor
open Go.ChangeShapes Go.WideShapes Go.ChangeAt Go.RowKit
set_option linter.unusedVariables false
set_option maxRecDepth 100000

theorem extB_len {b : List Int} (h : b.length = 8) (i m : Int) : (extB b i m).length = 8 := by
  unfold extB; split
  · rw [List.length_set]; exact h
  · rfl
theorem bankE_ways (b : List Int) : (bankE b = 0 ∧ b.all okM = true) ∨ (bankE b = 1 ∧ b.all okM = false) := by
  cases h : b.all okM
  · exact Or.inr ⟨bankE_no h, rfl⟩
  · exact Or.inl ⟨bankE_yes h, rfl⟩

set_option maxHeartbeats 8000000 in
theorem bankTells_walk (w : World) (x0 x1 x2 x3 x4 x5 x6 x7 : Int) (i m mask : Int) (y0 y1 y2 y3 y4 y5 y6 y7 : Int) (ii : I64 i) (im : I64 m) (ik : I64 mask) (hg : Door w) :
    Calls Tryd.prog 8 #[.agg #[.int .i64 x0, .int .i64 x1, .int .i64 x2, .int .i64 x3, .int .i64 x4, .int .i64 x5, .int .i64 x6, .int .i64 x7], .int .i64 i, .int .i64 m, .int .i64 mask, .agg #[.int .i64 y0, .int .i64 y1, .int .i64 y2, .int .i64 y3, .int .i64 y4, .int .i64 y5, .int .i64 y6, .int .i64 y7]] w fun e w' => e = .returned (.bool true) ∧ Below w.heap.size w w' := by
  have HG := Lib.hid hg
  have HN := Lib.hid ((Box.new w 47 #[.int .i64 x0, .int .i64 x1, .int .i64 x2, .int .i64 x3, .int .i64 x4, .int .i64 x5, .int .i64 x6, .int .i64 x7]).alloc_ (.cells #[.int .i64 y0, .int .i64 y1, .int .i64 y2, .int .i64 y3, .int .i64 y4, .int .i64 y5, .int .i64 y6, .int .i64 y7] 47))
  have HM : Hid (Box ((w.alloc (.cells #[.int .i64 x0, .int .i64 x1, .int .i64 x2, .int .i64 x3, .int .i64 x4, .int .i64 x5, .int .i64 x6, .int .i64 x7] 47)).alloc (.cells #[.int .i64 y0, .int .i64 y1, .int .i64 y2, .int .i64 y3, .int .i64 y4, .int .i64 y5, .int .i64 y6, .int .i64 y7] 47)) (w.heap.size + 1) 47 #[.int .i64 y0, .int .i64 y1, .int .i64 y2, .int .i64 y3, .int .i64 y4, .int .i64 y5, .int .i64 y6, .int .i64 y7]) := Lib.hid (by
    have h := Box.new (w.alloc (.cells #[.int .i64 x0, .int .i64 x1, .int .i64 x2, .int .i64 x3, .int .i64 x4, .int .i64 x5, .int .i64 x6, .int .i64 x7] 47)) 47 #[.int .i64 y0, .int .i64 y1, .int .i64 y2, .int .i64 y3, .int .i64 y4, .int .i64 y5, .int .i64 y6, .int .i64 y7]
    have e : (w.alloc (.cells #[.int .i64 x0, .int .i64 x1, .int .i64 x2, .int .i64 x3, .int .i64 x4, .int .i64 x5, .int .i64 x6, .int .i64 x7] 47)).heap.size = w.heap.size + 1 := by simp
    rw [e] at h; exact h)
  obtain ⟨B, hB⟩ : ∃ B, [x0, x1, x2, x3, x4, x5, x6, x7] = B := ⟨_, rfl⟩
  have HB := Lib.hid hB
  obtain ⟨G, hG⟩ : ∃ G, bankE B = G := ⟨_, rfl⟩
  have iG : I64 G := by rw [← hG]; exact bankE_bd _
  have HGG := Lib.hid hG
  obtain ⟨mb, hmb⟩ : ∃ mb, okM m = mb := ⟨_, rfl⟩
  have HMB := Lib.hid hmb
  obtain ⟨z0, z1, z2, z3, z4, z5, z6, z7, hzz⟩ := list8 (extB_len (b := B) (by rw [← hB]; rfl) i m)
  have HZ := Lib.hid hzz
  obtain ⟨XE, hXE⟩ : ∃ XE, extE B i m = XE := ⟨_, rfl⟩
  have iXE : I64 XE := by rw [← hXE]; exact extE_bd _ _ _
  have HXE := Lib.hid hXE
  clear hg hB hG hmb hzz hXE
  go_enter Tryd.func8, Tryd.ntmps8
  have cB := HN.out.cell
  have lB := HN.out.lt
  go_wp2_with fail
  clear cB lB
  refine (rBank_any x0 x1 x2 x3 x4 x5 x6 x7 _).mono ?_
  rintro e w1 ⟨rfl, hb1⟩
  rw [HB.out, HGG.out]
  have BB1 := Lib.hid (HN.out.below hb1)
  have BC1 := Lib.hid (HM.out.below hb1)
  have cB := BB1.out.cell
  have lB := BB1.out.lt
  go_wp2_with fail
  clear cB lB
  refine (bankCheck_any x0 x1 x2 x3 x4 x5 x6 x7 _).mono ?_
  rintro e w2 ⟨rfl, hb2⟩
  rw [HB.out, HGG.out]
  have BB2 := Lib.hid (BB1.out.below hb2)
  have BC2 := Lib.hid (BC1.out.below hb2)
  go_wp2_with fail
  refine (error_any _ _ _ (HG.out.below (by repeat (first | (with_reducible exact grow_refl _) | (with_reducible assumption) | (with_reducible refine grow_alloc ?_ _) | (with_reducible refine grow_set ?_ (by first | exact Nat.le_refl _ | (simp; done) | (simp; omega) | omega) _) | (with_reducible refine grow_drewN ?_ _) | (with_reducible refine grow_drew ?_) | (with_reducible refine grow_step ?_ (by assumption)) | (with_reducible refine grow_base ?_ (by assumption))))) iG).mono ?_
  rintro e w3 ⟨rfl, hb3⟩
  have BB3 := Lib.hid (BB2.out.below hb3)
  have BC3 := Lib.hid (BC2.out.below hb3)
  go_upto_region 5 with (go_at_call 13; refine (rIs_any _ _).mono ?_; rintro e w' ⟨rfl, rfl⟩; rw [HMB.out])
  go_cut [49] (fun t wx => ∃ Tb : Bool, t = .bool Tb ∧ Hid (XE = if Tb then 1 else G) ∧ Below w.heap.size w wx ∧ Hid (Box wx w.heap.size 47 #[.int .i64 x0, .int .i64 x1, .int .i64 x2, .int .i64 x3, .int .i64 x4, .int .i64 x5, .int .i64 x6, .int .i64 x7]) ∧ Hid (Box wx (w.heap.size + 1) 47 #[.int .i64 y0, .int .i64 y1, .int .i64 y2, .int .i64 y3, .int .i64 y4, .int .i64 y5, .int .i64 y6, .int .i64 y7]))
  case first =>
    by_cases h0 : G = 0
    · have t : (G == 0) = true := by simp [h0]
      have hall : B.all okM = true := by
        rcases bankE_ways B with ⟨h1, h2⟩ | ⟨h1, h2⟩
        · exact h2
        · rw [HGG.out] at h1; omega
      have hx : XE = if okReg i && mb then 0 else 1 := by rw [← HXE.out]; unfold extE extOk; rw [hall, HMB.out, Bool.true_and]
      have HX := Lib.hid hx
      have H0 := Lib.hid h0
      clear hx hall h0
      by_cases hi1 : i < 0
      · have HR : Hid (okReg i = false) := Lib.hid (decide_eq_false (by omega))
        go_wp2_with fail
        go_meet
        exact ⟨true, rfl, Lib.hid (by rw [HX.out, HR.out]; rfl), (by repeat (first | (with_reducible exact grow_refl _) | (with_reducible assumption) | (with_reducible refine grow_alloc ?_ _) | (with_reducible refine grow_set ?_ (by first | exact Nat.le_refl _ | (simp; done) | (simp; omega) | omega) _) | (with_reducible refine grow_drewN ?_ _) | (with_reducible refine grow_drew ?_) | (with_reducible refine grow_step ?_ (by assumption)) | (with_reducible refine grow_base ?_ (by assumption)))), BB3, BC3⟩
      · by_cases hi2 : 7 < i
        · have HR : Hid (okReg i = false) := Lib.hid (decide_eq_false (by omega))
          go_wp2_with fail
          go_meet
          exact ⟨true, rfl, Lib.hid (by rw [HX.out, HR.out]; rfl), (by repeat (first | (with_reducible exact grow_refl _) | (with_reducible assumption) | (with_reducible refine grow_alloc ?_ _) | (with_reducible refine grow_set ?_ (by first | exact Nat.le_refl _ | (simp; done) | (simp; omega) | omega) _) | (with_reducible refine grow_drewN ?_ _) | (with_reducible refine grow_drew ?_) | (with_reducible refine grow_step ?_ (by assumption)) | (with_reducible refine grow_base ?_ (by assumption)))), BB3, BC3⟩
        · have HR : Hid (okReg i = true) := Lib.hid (decide_eq_true (by omega))
          cases mb
          · go_wp2_with fail
            go_meet
            exact ⟨true, rfl, Lib.hid (by rw [HX.out, HR.out]; rfl), (by repeat (first | (with_reducible exact grow_refl _) | (with_reducible assumption) | (with_reducible refine grow_alloc ?_ _) | (with_reducible refine grow_set ?_ (by first | exact Nat.le_refl _ | (simp; done) | (simp; omega) | omega) _) | (with_reducible refine grow_drewN ?_ _) | (with_reducible refine grow_drew ?_) | (with_reducible refine grow_step ?_ (by assumption)) | (with_reducible refine grow_base ?_ (by assumption)))), BB3, BC3⟩
          · go_wp2_with fail
            go_meet
            exact ⟨false, rfl, Lib.hid (by rw [HX.out, HR.out, H0.out]; rfl), (by repeat (first | (with_reducible exact grow_refl _) | (with_reducible assumption) | (with_reducible refine grow_alloc ?_ _) | (with_reducible refine grow_set ?_ (by first | exact Nat.le_refl _ | (simp; done) | (simp; omega) | omega) _) | (with_reducible refine grow_drewN ?_ _) | (with_reducible refine grow_drew ?_) | (with_reducible refine grow_step ?_ (by assumption)) | (with_reducible refine grow_base ?_ (by assumption)))), BB3, BC3⟩
    · have t : (G == 0) = false := by simpa using h0
      have HX : Hid (XE = G) := Lib.hid (by
        rcases bankE_ways B with ⟨h1, h2⟩ | ⟨h1, h2⟩
        · rw [HGG.out] at h1; exact absurd h1 h0
        · rw [← HXE.out, ← HGG.out, h1]; unfold extE extOk; rw [h2]; rfl)
      clear h0
      go_wp2_with fail
      go_meet
      exact ⟨false, rfl, Lib.hid (by rw [HX.out]; rfl), (by repeat (first | (with_reducible exact grow_refl _) | (with_reducible assumption) | (with_reducible refine grow_alloc ?_ _) | (with_reducible refine grow_set ?_ (by first | exact Nat.le_refl _ | (simp; done) | (simp; omega) | omega) _) | (with_reducible refine grow_drewN ?_ _) | (with_reducible refine grow_drew ?_) | (with_reducible refine grow_step ?_ (by assumption)) | (with_reducible refine grow_base ?_ (by assumption)))), BB3, BC3⟩
  case rest =>
  obtain ⟨Tb, rfl, HTb, hb4, BB4, BC4⟩ := hcut
  go_upto_if 49 with fail
  go_cut [13] (fun e wx => e = .int .i64 XE ∧ Below w.heap.size w wx ∧ Hid (Box wx w.heap.size 47 #[.int .i64 x0, .int .i64 x1, .int .i64 x2, .int .i64 x3, .int .i64 x4, .int .i64 x5, .int .i64 x6, .int .i64 x7]) ∧ Hid (Box wx (w.heap.size + 1) 47 #[.int .i64 y0, .int .i64 y1, .int .i64 y2, .int .i64 y3, .int .i64 y4, .int .i64 y5, .int .i64 y6, .int .i64 y7]))
  case first =>
    cases Tb
    · go_wp2_with fail
      go_meet
      exact ⟨by rw [HTb.out]; rfl, (by repeat (first | (with_reducible exact grow_refl _) | (with_reducible assumption) | (with_reducible refine grow_alloc ?_ _) | (with_reducible refine grow_set ?_ (by first | exact Nat.le_refl _ | (simp; done) | (simp; omega) | omega) _) | (with_reducible refine grow_drewN ?_ _) | (with_reducible refine grow_drew ?_) | (with_reducible refine grow_step ?_ (by assumption)) | (with_reducible refine grow_base ?_ (by assumption)))), BB4, BC4⟩
    · go_wp2_with fail
      go_meet
      exact ⟨by rw [HTb.out]; rfl, (by repeat (first | (with_reducible exact grow_refl _) | (with_reducible assumption) | (with_reducible refine grow_alloc ?_ _) | (with_reducible refine grow_set ?_ (by first | exact Nat.le_refl _ | (simp; done) | (simp; omega) | omega) _) | (with_reducible refine grow_drewN ?_ _) | (with_reducible refine grow_drew ?_) | (with_reducible refine grow_step ?_ (by assumption)) | (with_reducible refine grow_base ?_ (by assumption)))), BB4, BC4⟩
  case rest =>
  obtain ⟨rfl, hb5, BB5, BC5⟩ := hcut
  go_upto_if 51 with fail
  obtain ⟨g1, hg1⟩ : ∃ g1, wc.heap.size = g1 := ⟨_, rfl⟩
  rw [hg1]
  have BW := Lib.hid (Box.new wc 47 #[.int .i64 0, .int .i64 0, .int .i64 0, .int .i64 0, .int .i64 0, .int .i64 0, .int .i64 0, .int .i64 0])
  have la := BC5.out.lt
  rw [hg1] at BW la
  have HG1 := Lib.hid hg1
  clear hg1
  go_cut [13] (fun e wx => e = .int .i64 XE ∧ Below w.heap.size w wx ∧ Hid (Box wx w.heap.size 47 #[.int .i64 x0, .int .i64 x1, .int .i64 x2, .int .i64 x3, .int .i64 x4, .int .i64 x5, .int .i64 x6, .int .i64 x7]) ∧ Hid (Box wx (w.heap.size + 1) 47 #[.int .i64 y0, .int .i64 y1, .int .i64 y2, .int .i64 y3, .int .i64 y4, .int .i64 y5, .int .i64 y6, .int .i64 y7]) ∧ Hid (Box wx g1 47 #[.int .i64 z0, .int .i64 z1, .int .i64 z2, .int .i64 z3, .int .i64 z4, .int .i64 z5, .int .i64 z6, .int .i64 z7]))
  case first =>
    cases ho : extOk B i m
    · have HE0 : Hid (XE = 1 ∧ [0, 0, 0, 0, 0, 0, 0, 0] = [z0, z1, z2, z3, z4, z5, z6, z7]) := Lib.hid ⟨by rw [← HXE.out]; exact (ext_no ho).2, by rw [← HZ.out]; exact (ext_no ho).1⟩
      have hy := HE0.out.2
      simp only [List.cons.injEq, and_true] at hy
      obtain ⟨rfl, rfl, rfl, rfl, rfl, rfl, rfl, rfl⟩ := hy
      have t : (XE == 0) = false := by rw [HE0.out.1]; rfl
      clear ho
      go_wp2_with fail
      go_meet
      exact ⟨rfl, (by repeat (first | (with_reducible exact grow_refl _) | (with_reducible assumption) | (with_reducible refine grow_alloc ?_ _) | (with_reducible refine grow_set ?_ (by first | exact Nat.le_refl _ | (simp; done) | (simp; omega) | omega) _) | (with_reducible refine grow_drewN ?_ _) | (with_reducible refine grow_drew ?_) | (with_reducible refine grow_step ?_ (by assumption)) | (with_reducible refine grow_base ?_ (by assumption)))), Lib.hid (BB5.out.alloc_ _), Lib.hid (BC5.out.alloc_ _), BW⟩
    · have hy := ext_yes ho
      have ho2 := ho
      unfold extOk at ho2
      simp only [Bool.and_eq_true] at ho2
      obtain ⟨⟨hall, hr⟩, hm⟩ := ho2
      have hr' := okReg_yes hr
      obtain ⟨r, rfl⟩ := Int.eq_ofNat_of_zero_le hr'.1
      have hr8 : r < 8 := by omega
      have kv : okM (B.getD r 0) = true := all_at hall r (by rw [← HB.out]; exact hr8)
      obtain ⟨v, hv⟩ : ∃ v, B.getD r 0 = v := ⟨_, rfl⟩
      rw [hv] at kv
      have HV := Lib.hid hv
      have HE0 : Hid (XE = 0 ∧ B.set r (pairM v m) = [z0, z1, z2, z3, z4, z5, z6, z7]) := Lib.hid ⟨by rw [← HXE.out]; exact hy.2, by rw [← HZ.out, hy.1, Int.toNat_natCast, hv]⟩
      have hx0 := BB5.out.at_ (xs := [x0, x1, x2, x3, x4, x5, x6, x7]) r hr8
      rw [HB.out, hv] at hx0
      have t : (XE == 0) = true := by rw [HE0.out.1]; rfl
      have gr : (r : Int) < 8 := by omega
      have lB := BB5.out.lt
      have cB := BB5.out.cell
      have cW := BW.out.cell
      have fW := BW.out.frozen
      have lW := BW.out.lt
      clear ho hy hall hr hr' hv
      go_upto_region 10 with fail
      have BBs := Lib.hid ((((((((((BB5.out.alloc_ (.cells #[.int .i64 0, .int .i64 0, .int .i64 0, .int .i64 0, .int .i64 0, .int .i64 0, .int .i64 0, .int .i64 0] 47)).far (p := ⟨g1, 0, none⟩) (by simp; omega) (.int .i64 x0)).far (p := ⟨g1, 1, none⟩) (by simp; omega) (.int .i64 x1)).far (p := ⟨g1, 2, none⟩) (by simp; omega) (.int .i64 x2)).far (p := ⟨g1, 3, none⟩) (by simp; omega) (.int .i64 x3)).far (p := ⟨g1, 4, none⟩) (by simp; omega) (.int .i64 x4)).far (p := ⟨g1, 5, none⟩) (by simp; omega) (.int .i64 x5)).far (p := ⟨g1, 6, none⟩) (by simp; omega) (.int .i64 x6)).far (p := ⟨g1, 7, none⟩) (by simp; omega) (.int .i64 x7)))
      have BCs := Lib.hid ((((((((((BC5.out.alloc_ (.cells #[.int .i64 0, .int .i64 0, .int .i64 0, .int .i64 0, .int .i64 0, .int .i64 0, .int .i64 0, .int .i64 0] 47)).far (p := ⟨g1, 0, none⟩) (by simp; omega) (.int .i64 x0)).far (p := ⟨g1, 1, none⟩) (by simp; omega) (.int .i64 x1)).far (p := ⟨g1, 2, none⟩) (by simp; omega) (.int .i64 x2)).far (p := ⟨g1, 3, none⟩) (by simp; omega) (.int .i64 x3)).far (p := ⟨g1, 4, none⟩) (by simp; omega) (.int .i64 x4)).far (p := ⟨g1, 5, none⟩) (by simp; omega) (.int .i64 x5)).far (p := ⟨g1, 6, none⟩) (by simp; omega) (.int .i64 x6)).far (p := ⟨g1, 7, none⟩) (by simp; omega) (.int .i64 x7)))
      have BWs := Lib.hid (BW.out.fill8 (.int .i64 x0) (.int .i64 x1) (.int .i64 x2) (.int .i64 x3) (.int .i64 x4) (.int .i64 x5) (.int .i64 x6) (.int .i64 x7))
      clear cB cW fW lW lB hx0
      have hx1 := BBs.out.at_ (xs := [x0, x1, x2, x3, x4, x5, x6, x7]) r hr8
      rw [HB.out, HV.out] at hx1
      have hw1 := BWs.out.at_ (xs := [x0, x1, x2, x3, x4, x5, x6, x7]) r hr8
      have fw1 := BWs.out.frozen r
      have lB2 := BBs.out.lt
      have lW2 := BWs.out.lt
      go_wp2_with (go_at_call 14; refine (rTwo_any _ _ _ kv hm).mono ?_; rintro e w' ⟨rfl, rfl⟩)
      go_meet
      refine ⟨rfl, (by repeat (first | (with_reducible exact grow_refl _) | (with_reducible assumption) | (with_reducible refine grow_alloc ?_ _) | (with_reducible refine grow_set ?_ (by first | exact Nat.le_refl _ | (simp; done) | (simp; omega) | omega) _) | (with_reducible refine grow_drewN ?_ _) | (with_reducible refine grow_drew ?_) | (with_reducible refine grow_step ?_ (by assumption)) | (with_reducible refine grow_base ?_ (by assumption)))), Lib.hid (BBs.out.far (p := ⟨g1, r, none⟩) (by simp; omega) _), Lib.hid (BCs.out.far (p := ⟨g1, r, none⟩) (by simp; omega) _), Lib.hid ?_⟩
      have h := Box.setI (xs := [x0, x1, x2, x3, x4, x5, x6, x7]) BWs.out r (pairM v m)
      rw [HB.out, HE0.out.2] at h
      exact h
  case rest =>
  obtain ⟨rfl, hb6, BB6, BC6, BW6⟩ := hcut
  have cB := BB6.out.cell
  have lB := BB6.out.lt
  go_wp2_with fail
  clear cB
  refine (extend_any x0 x1 x2 x3 x4 x5 x6 x7 i m _).mono ?_
  rintro e w7 ⟨v0, v1, v2, v3, v4, v5, v6, v7, hy, rfl, hb7⟩
  rw [HB.out] at hy ⊢
  rw [HZ.out] at hy
  rw [HXE.out]
  simp only [List.cons.injEq, and_true] at hy
  obtain ⟨rfl, rfl, rfl, rfl, rfl, rfl, rfl, rfl⟩ := hy
  have BB7 := Lib.hid (BB6.out.below hb7)
  have BC7 := Lib.hid (BC6.out.below hb7)
  have BW7 := Lib.hid (BW6.out.below hb7)
  have l7 := BW7.out.lt
  go_wp2_with fail
  have BX := Box.new w7 47 #[.int .i64 v0, .int .i64 v1, .int .i64 v2, .int .i64 v3, .int .i64 v4, .int .i64 v5, .int .i64 v6, .int .i64 v7]
  refine (error_any _ _ _ (HG.out.below (by repeat (first | (with_reducible exact grow_refl _) | (with_reducible assumption) | (with_reducible refine grow_alloc ?_ _) | (with_reducible refine grow_set ?_ (by first | exact Nat.le_refl _ | (simp; done) | (simp; omega) | omega) _) | (with_reducible refine grow_drewN ?_ _) | (with_reducible refine grow_drew ?_) | (with_reducible refine grow_step ?_ (by assumption)) | (with_reducible refine grow_base ?_ (by assumption))))) iXE).mono ?_
  rintro e w8 ⟨rfl, hb8⟩
  have BX8 := BX.below hb8
  have BW8 := (BW7.out.alloc_ _).below hb8
  have BB8 := Lib.hid ((BB7.out.alloc_ _).below hb8)
  have BC8 := Lib.hid ((BC7.out.alloc_ _).below hb8)
  have cX := BX8.cell
  have lX := BX8.lt
  have cW := BW8.cell
  have lW := BW8.lt
  have cB := BB8.out.cell
  have lB := BB8.out.lt
  have rq : ∀ w, (binOp .eql 47 (.agg #[.int .i64 v0, .int .i64 v1, .int .i64 v2, .int .i64 v3, .int .i64 v4, .int .i64 v5, .int .i64 v6, .int .i64 v7]) (.agg #[.int .i64 v0, .int .i64 v1, .int .i64 v2, .int .i64 v3, .int .i64 v4, .int .i64 v5, .int .i64 v6, .int .i64 v7])).run Tryd.prog w = .ok (.bool true) w := fun w => by rw [run_eq8_eql]; simp
  have rg := fun o p w => run_eq8_guard v0 v1 v2 v3 v4 v5 v6 v7 v0 v1 v2 v3 v4 v5 v6 v7 .eql o p w
  obtain ⟨D, hD⟩ : ∃ D, digE B mask = D := ⟨_, rfl⟩
  have iD : I64 D := by rw [← hD]; exact digE_bd _ _
  have HD := Lib.hid hD
  clear hD
  go_wp2_with fail
  clear cX cW cB rq rg
  refine (rDigested_any x0 x1 x2 x3 x4 x5 x6 x7 mask _).mono ?_
  rintro e w9 ⟨rfl, hb9⟩
  rw [HB.out, HD.out]
  have BB9 := Lib.hid (BB8.out.below hb9)
  have BC9 := Lib.hid (BC8.out.below hb9)
  go_upto_if 79 with fail
  go_cut [19] (fun n wx => n = .int .i64 (digM B mask) ∧ Below w.heap.size w wx ∧ Hid (Box wx w.heap.size 47 #[.int .i64 x0, .int .i64 x1, .int .i64 x2, .int .i64 x3, .int .i64 x4, .int .i64 x5, .int .i64 x6, .int .i64 x7]) ∧ Hid (Box wx (w.heap.size + 1) 47 #[.int .i64 y0, .int .i64 y1, .int .i64 y2, .int .i64 y3, .int .i64 y4, .int .i64 y5, .int .i64 y6, .int .i64 y7]))
  case first =>
    by_cases h0 : D = 0
    · have t : (D == 0) = true := by simp [h0]
      have hk := HD.out.trans h0
      have hall : B.all okM = true ∧ 0 ≤ mask ∧ mask ≤ 255 ∧ digM B mask = isM B mask := by
        unfold digE at hk
        cases hb : (B.all okM && okMask mask)
        · rw [hb] at hk; exact absurd hk (by decide)
        · obtain ⟨h1, h2⟩ := Bool.and_eq_true_iff.1 hb
          have h3 := okMask_yes h2
          exact ⟨h1, h3.1, h3.2, by unfold digM; rw [hb, if_pos rfl]⟩
      obtain ⟨ho, m1, m2, hdm⟩ := hall
      have HO := Lib.hid ho
      have HDM := Lib.hid hdm
      have cB := BB9.out.cell
      have lB2 := BB9.out.lt
      clear h0 hk ho hdm
      go_wp2_with fail
      clear cB
      refine (rDigest_any x0 x1 x2 x3 x4 x5 x6 x7 mask _ m1 m2 (by rw [HB.out]; exact HO.out)).mono ?_
      rintro e w10 ⟨rfl, hb10⟩
      have BB10 := Lib.hid (BB9.out.below hb10)
      have BC10 := Lib.hid (BC9.out.below hb10)
      go_wp2_with fail
      go_meet
      exact ⟨by rw [HDM.out, HB.out], (by repeat (first | (with_reducible exact grow_refl _) | (with_reducible assumption) | (with_reducible refine grow_alloc ?_ _) | (with_reducible refine grow_set ?_ (by first | exact Nat.le_refl _ | (simp; done) | (simp; omega) | omega) _) | (with_reducible refine grow_drewN ?_ _) | (with_reducible refine grow_drew ?_) | (with_reducible refine grow_step ?_ (by assumption)) | (with_reducible refine grow_base ?_ (by assumption)))), BB10, BC10⟩
    · have t : (D == 0) = false := by simpa using h0
      have HDM : Hid (digM B mask = 0) := Lib.hid (by
        have h := HD.out
        unfold digE at h
        unfold digM
        cases hb : (B.all okM && okMask mask)
        · rfl
        · rw [hb] at h; exact absurd h.symm h0)
      clear h0
      go_wp2_with fail
      go_meet
      exact ⟨by rw [HDM.out], (by repeat (first | (with_reducible exact grow_refl _) | (with_reducible assumption) | (with_reducible refine grow_alloc ?_ _) | (with_reducible refine grow_set ?_ (by first | exact Nat.le_refl _ | (simp; done) | (simp; omega) | omega) _) | (with_reducible refine grow_drewN ?_ _) | (with_reducible refine grow_drew ?_) | (with_reducible refine grow_step ?_ (by assumption)) | (with_reducible refine grow_base ?_ (by assumption)))), BB9, BC9⟩
  case rest =>
  obtain ⟨rfl, hb11, BB11, BC11⟩ := hcut
  have cB := BB11.out.cell
  have lB3 := BB11.out.lt
  go_wp2_with fail
  clear cB
  refine (digest_any x0 x1 x2 x3 x4 x5 x6 x7 mask _).mono ?_
  rintro e w12 ⟨rfl, hb12⟩
  rw [HB.out, HD.out]
  have BB12 := Lib.hid (BB11.out.below hb12)
  have BC12 := Lib.hid (BC11.out.below hb12)
  go_wp2_with fail
  refine (error_any _ _ _ (HG.out.below (by repeat (first | (with_reducible exact grow_refl _) | (with_reducible assumption) | (with_reducible refine grow_alloc ?_ _) | (with_reducible refine grow_set ?_ (by first | exact Nat.le_refl _ | (simp; done) | (simp; omega) | omega) _) | (with_reducible refine grow_drewN ?_ _) | (with_reducible refine grow_drew ?_) | (with_reducible refine grow_step ?_ (by assumption)) | (with_reducible refine grow_base ?_ (by assumption))))) iD).mono ?_
  rintro e w13 ⟨rfl, hb13⟩
  have BB13 := Lib.hid (BB12.out.below hb13)
  have BC13 := Lib.hid (BC12.out.below hb13)
  obtain ⟨E2, hE2⟩ : ∃ E2, sameE [x0, x1, x2, x3, x4, x5, x6, x7] [y0, y1, y2, y3, y4, y5, y6, y7] mask = E2 := ⟨_, rfl⟩
  have iE2 : I64 E2 := by rw [← hE2]; exact sameE_bd _ _ _
  have HE2 := Lib.hid hE2
  clear hE2
  go_upto_if 99 with fail
  go_cut [13] (fun e wx => e = .int .i64 E2 ∧ Below w.heap.size w wx ∧ Hid (Box wx w.heap.size 47 #[.int .i64 x0, .int .i64 x1, .int .i64 x2, .int .i64 x3, .int .i64 x4, .int .i64 x5, .int .i64 x6, .int .i64 x7]) ∧ Hid (Box wx (w.heap.size + 1) 47 #[.int .i64 y0, .int .i64 y1, .int .i64 y2, .int .i64 y3, .int .i64 y4, .int .i64 y5, .int .i64 y6, .int .i64 y7]))
  case first =>
    rcases bankE_ways B with ⟨h1, h2⟩ | ⟨h1, h2⟩
    · have hG0 : G = 0 := by rw [← HGG.out]; exact h1
      have t : (G == 0) = true := by simp [hG0]
      have HDD : Hid (digE [y0, y1, y2, y3, y4, y5, y6, y7] mask = E2) := Lib.hid (by rw [← HE2.out, sameE_dig (by rw [HB.out]; exact h2)])
      have cC := BC13.out.cell
      have lC := BC13.out.lt
      clear h1 h2 hG0
      go_wp2_with fail
      clear cC
      refine (rDigested_any y0 y1 y2 y3 y4 y5 y6 y7 mask _).mono ?_
      rintro e w14 ⟨rfl, hb14⟩
      rw [HDD.out]
      have BB14 := Lib.hid (BB13.out.below hb14)
      have BC14 := Lib.hid (BC13.out.below hb14)
      go_wp2_with fail
      go_meet
      exact ⟨rfl, (by repeat (first | (with_reducible exact grow_refl _) | (with_reducible assumption) | (with_reducible refine grow_alloc ?_ _) | (with_reducible refine grow_set ?_ (by first | exact Nat.le_refl _ | (simp; done) | (simp; omega) | omega) _) | (with_reducible refine grow_drewN ?_ _) | (with_reducible refine grow_drew ?_) | (with_reducible refine grow_step ?_ (by assumption)) | (with_reducible refine grow_base ?_ (by assumption)))), BB14, BC14⟩
    · have hG0 : G = 1 := by rw [← HGG.out]; exact h1
      have t : (G == 0) = false := by simp [hG0]
      have HDD : Hid (G = E2) := Lib.hid (by rw [← HE2.out, hG0]; unfold sameE; rw [HB.out, h2]; rfl)
      clear h1 h2 hG0
      go_wp2_with fail
      go_meet
      exact ⟨by rw [HDD.out], (by repeat (first | (with_reducible exact grow_refl _) | (with_reducible assumption) | (with_reducible refine grow_alloc ?_ _) | (with_reducible refine grow_set ?_ (by first | exact Nat.le_refl _ | (simp; done) | (simp; omega) | omega) _) | (with_reducible refine grow_drewN ?_ _) | (with_reducible refine grow_drew ?_) | (with_reducible refine grow_step ?_ (by assumption)) | (with_reducible refine grow_base ?_ (by assumption)))), BB13, BC13⟩
  case rest =>
  obtain ⟨rfl, hb15, BB15, BC15⟩ := hcut
  have hmok : E2 = 0 → 0 ≤ mask ∧ mask ≤ 255 := fun h => by
    have h1 := HE2.out.trans h
    unfold sameE at h1
    cases h3 : (([x0, x1, x2, x3, x4, x5, x6, x7]).all okM && ([y0, y1, y2, y3, y4, y5, y6, y7]).all okM && okMask mask)
    · rw [h3] at h1; exact absurd h1 (by decide)
    · exact okMask_yes (Bool.and_eq_true_iff.1 h3).2
  have HMK := Lib.hid hmok
  clear hmok
  go_wp2_with fail
  obtain ⟨b0, hb0⟩ : ∃ b0, (E2 == 0) = b0 := ⟨_, rfl⟩
  rw [hb0]
  have HB0 := Lib.hid hb0
  clear hb0
  go_loopw [22, 23, 24] (fun s i _ wr => ∃ (k : Nat) (V : Bool), k ≤ 8 ∧ i = .int .i64 k ∧ s = .bool V ∧ Hid (V = (decide (E2 = 0) && alikeK [x0, x1, x2, x3, x4, x5, x6, x7] [y0, y1, y2, y3, y4, y5, y6, y7] mask k)) ∧ Below w.heap.size w wr ∧ Hid (Box wr w.heap.size 47 #[.int .i64 x0, .int .i64 x1, .int .i64 x2, .int .i64 x3, .int .i64 x4, .int .i64 x5, .int .i64 x6, .int .i64 x7]) ∧ Hid (Box wr (w.heap.size + 1) 47 #[.int .i64 y0, .int .i64 y1, .int .i64 y2, .int .i64 y3, .int .i64 y4, .int .i64 y5, .int .i64 y6, .int .i64 y7])) (fun _ i _ _ => 8 - (intOf i).toNat)
  case atStart => exact ⟨0, b0, by omega, rfl, rfl, Lib.hid (by rw [← HB0.out]; unfold alikeK; by_cases h : E2 = 0 <;> simp [h]), (by repeat (first | (with_reducible exact grow_refl _) | (with_reducible assumption) | (with_reducible refine grow_alloc ?_ _) | (with_reducible refine grow_set ?_ (by first | exact Nat.le_refl _ | (simp; done) | (simp; omega) | omega) _) | (with_reducible refine grow_drewN ?_ _) | (with_reducible refine grow_drew ?_) | (with_reducible refine grow_step ?_ (by assumption)) | (with_reducible refine grow_base ?_ (by assumption)))), BB15, BC15⟩
  case round =>
    obtain ⟨k, V, hk, rfl, rfl, HV, hbr, BBr, BCr⟩ := hrel
    by_cases hE : E2 = 0
    · have tE : (E2 == 0) = true := by simp [hE]
      by_cases hlt : k < 8
      · obtain ⟨m1, m2⟩ := HMK.out hE
        have hu0 := BBr.out.at_ (xs := [x0, x1, x2, x3, x4, x5, x6, x7]) k hlt
        have hv0 := BCr.out.at_ (xs := [y0, y1, y2, y3, y4, y5, y6, y7]) k hlt
        obtain ⟨u, hu⟩ : ∃ u, ([x0, x1, x2, x3, x4, x5, x6, x7]).getD k 0 = u := ⟨_, rfl⟩
        obtain ⟨v, hv⟩ : ∃ v, ([y0, y1, y2, y3, y4, y5, y6, y7]).getD k 0 = v := ⟨_, rfl⟩
        have hs := alikeK_succ [x0, x1, x2, x3, x4, x5, x6, x7] [y0, y1, y2, y3, y4, y5, y6, y7] mask k
        rw [hu, hv] at hs
        rw [hu] at hu0
        rw [hv] at hv0
        have HS := Lib.hid hs
        have HE0 := Lib.hid hE
        have gk : (k : Int) < 8 := by omega
        have lB := BBr.out.lt
        have lC := BCr.out.lt
        clear hs hu hv hE
        cases hbit : bitM mask k
        · have HV2 : Hid (V = (decide (E2 = 0) && alikeK [x0, x1, x2, x3, x4, x5, x6, x7] [y0, y1, y2, y3, y4, y5, y6, y7] mask (k + 1))) := Lib.hid (by rw [HS.out, hbit, HV.out]; simp)
          go_wp2_with (go_at_call 44; refine (rAsks_any _ _ _ m1 m2 (by omega) (by omega)).mono ?_; rintro e w' ⟨rfl, rfl⟩; rw [Int.toNat_natCast, hbit])
          go_quiet (fail)
          go_wp2_with fail
          go_roundw
          case rel => exact ⟨k + 1, V, by omega, by go_num, rfl, HV2, (by repeat (first | (with_reducible exact grow_refl _) | (with_reducible assumption) | (with_reducible refine grow_alloc ?_ _) | (with_reducible refine grow_set ?_ (by first | exact Nat.le_refl _ | (simp; done) | (simp; omega) | omega) _) | (with_reducible refine grow_drewN ?_ _) | (with_reducible refine grow_drew ?_) | (with_reducible refine grow_step ?_ (by assumption)) | (with_reducible refine grow_base ?_ (by assumption)))), Lib.hid (BBr.out.below (grow_drewN (grow_refl _) _)), Lib.hid (BCr.out.below (grow_drewN (grow_refl _) _))⟩
          case measure => simp [intOf]; omega
        · by_cases huv : u = v
          · have t : (u != v) = false := by simp [huv]
            have HV2 : Hid (V = (decide (E2 = 0) && alikeK [x0, x1, x2, x3, x4, x5, x6, x7] [y0, y1, y2, y3, y4, y5, y6, y7] mask (k + 1))) := Lib.hid (by rw [HS.out, hbit, HV.out, huv]; simp)
            clear huv
            go_wp2_with (go_at_call 44; refine (rAsks_any _ _ _ m1 m2 (by omega) (by omega)).mono ?_; rintro e w' ⟨rfl, rfl⟩; rw [Int.toNat_natCast, hbit])
            go_quiet (fail)
            go_wp2_with fail
            go_roundw
            case rel => exact ⟨k + 1, V, by omega, by go_num, rfl, HV2, (by repeat (first | (with_reducible exact grow_refl _) | (with_reducible assumption) | (with_reducible refine grow_alloc ?_ _) | (with_reducible refine grow_set ?_ (by first | exact Nat.le_refl _ | (simp; done) | (simp; omega) | omega) _) | (with_reducible refine grow_drewN ?_ _) | (with_reducible refine grow_drew ?_) | (with_reducible refine grow_step ?_ (by assumption)) | (with_reducible refine grow_base ?_ (by assumption)))), Lib.hid (BBr.out.below (grow_drewN (grow_refl _) _)), Lib.hid (BCr.out.below (grow_drewN (grow_refl _) _))⟩
            case measure => simp [intOf]; omega
          · have t : (u != v) = true := by simp [huv]
            have HV2 : Hid (false = (decide (E2 = 0) && alikeK [x0, x1, x2, x3, x4, x5, x6, x7] [y0, y1, y2, y3, y4, y5, y6, y7] mask (k + 1))) := Lib.hid (by rw [HS.out, hbit, show (u == v) = false from by simp [huv]]; simp)
            clear huv
            go_wp2_with (go_at_call 44; refine (rAsks_any _ _ _ m1 m2 (by omega) (by omega)).mono ?_; rintro e w' ⟨rfl, rfl⟩; rw [Int.toNat_natCast, hbit])
            go_quiet (fail)
            go_wp2_with fail
            go_roundw
            case rel => exact ⟨k + 1, false, by omega, by go_num, rfl, HV2, (by repeat (first | (with_reducible exact grow_refl _) | (with_reducible assumption) | (with_reducible refine grow_alloc ?_ _) | (with_reducible refine grow_set ?_ (by first | exact Nat.le_refl _ | (simp; done) | (simp; omega) | omega) _) | (with_reducible refine grow_drewN ?_ _) | (with_reducible refine grow_drew ?_) | (with_reducible refine grow_step ?_ (by assumption)) | (with_reducible refine grow_base ?_ (by assumption)))), Lib.hid (BBr.out.below (grow_drewN (grow_refl _) _)), Lib.hid (BCr.out.below (grow_drewN (grow_refl _) _))⟩
            case measure => simp [intOf]; omega
      · have HF : Hid (V = sameB [x0, x1, x2, x3, x4, x5, x6, x7] [y0, y1, y2, y3, y4, y5, y6, y7] mask) := Lib.hid (by rw [same_alike, HE2.out, HV.out, show k = 8 from by omega])
        clear hE
        have cB := BBr.out.cell
        have lB := BBr.out.lt
        have cC := BCr.out.cell
        have lC := BCr.out.lt
        go_wp2_with fail
        clear cB cC
        refine (same_any x0 x1 x2 x3 x4 x5 x6 x7 y0 y1 y2 y3 y4 y5 y6 y7 mask _).mono ?_
        rintro e w20 ⟨rfl, hb20⟩
        rw [HE2.out, ← HF.out]
        go_wp2_with fail
        refine (error_any _ _ _ (HG.out.below (by repeat (first | (with_reducible exact grow_refl _) | (with_reducible assumption) | (with_reducible refine grow_alloc ?_ _) | (with_reducible refine grow_set ?_ (by first | exact Nat.le_refl _ | (simp; done) | (simp; omega) | omega) _) | (with_reducible refine grow_drewN ?_ _) | (with_reducible refine grow_drew ?_) | (with_reducible refine grow_step ?_ (by assumption)) | (with_reducible refine grow_base ?_ (by assumption))))) iE2).mono ?_
        rintro e w21 ⟨rfl, hb21⟩
        go_wp2_with fail
        go_ret
        exact ⟨rfl, (by repeat (first | (with_reducible exact grow_refl _) | (with_reducible assumption) | (with_reducible refine grow_alloc ?_ _) | (with_reducible refine grow_set ?_ (by first | exact Nat.le_refl _ | (simp; done) | (simp; omega) | omega) _) | (with_reducible refine grow_drewN ?_ _) | (with_reducible refine grow_drew ?_) | (with_reducible refine grow_step ?_ (by assumption)) | (with_reducible refine grow_base ?_ (by assumption))))⟩
    · have tE : (E2 == 0) = false := by simpa using hE
      have HF : Hid (V = sameB [x0, x1, x2, x3, x4, x5, x6, x7] [y0, y1, y2, y3, y4, y5, y6, y7] mask) := Lib.hid (by rw [same_alike, HE2.out, HV.out]; simp [hE])
      clear hE
      by_cases hlt : k < 8
      · have cB := BBr.out.cell
        have lB := BBr.out.lt
        have cC := BCr.out.cell
        have lC := BCr.out.lt
        go_wp2_with fail
        clear cB cC
        refine (same_any x0 x1 x2 x3 x4 x5 x6 x7 y0 y1 y2 y3 y4 y5 y6 y7 mask _).mono ?_
        rintro e w20 ⟨rfl, hb20⟩
        rw [HE2.out, ← HF.out]
        go_wp2_with fail
        refine (error_any _ _ _ (HG.out.below (by repeat (first | (with_reducible exact grow_refl _) | (with_reducible assumption) | (with_reducible refine grow_alloc ?_ _) | (with_reducible refine grow_set ?_ (by first | exact Nat.le_refl _ | (simp; done) | (simp; omega) | omega) _) | (with_reducible refine grow_drewN ?_ _) | (with_reducible refine grow_drew ?_) | (with_reducible refine grow_step ?_ (by assumption)) | (with_reducible refine grow_base ?_ (by assumption))))) iE2).mono ?_
        rintro e w21 ⟨rfl, hb21⟩
        go_wp2_with fail
        go_ret
        exact ⟨rfl, (by repeat (first | (with_reducible exact grow_refl _) | (with_reducible assumption) | (with_reducible refine grow_alloc ?_ _) | (with_reducible refine grow_set ?_ (by first | exact Nat.le_refl _ | (simp; done) | (simp; omega) | omega) _) | (with_reducible refine grow_drewN ?_ _) | (with_reducible refine grow_drew ?_) | (with_reducible refine grow_step ?_ (by assumption)) | (with_reducible refine grow_base ?_ (by assumption))))⟩
      · have cB := BBr.out.cell
        have lB := BBr.out.lt
        have cC := BCr.out.cell
        have lC := BCr.out.lt
        go_wp2_with fail
        clear cB cC
        refine (same_any x0 x1 x2 x3 x4 x5 x6 x7 y0 y1 y2 y3 y4 y5 y6 y7 mask _).mono ?_
        rintro e w20 ⟨rfl, hb20⟩
        rw [HE2.out, ← HF.out]
        go_wp2_with fail
        refine (error_any _ _ _ (HG.out.below (by repeat (first | (with_reducible exact grow_refl _) | (with_reducible assumption) | (with_reducible refine grow_alloc ?_ _) | (with_reducible refine grow_set ?_ (by first | exact Nat.le_refl _ | (simp; done) | (simp; omega) | omega) _) | (with_reducible refine grow_drewN ?_ _) | (with_reducible refine grow_drew ?_) | (with_reducible refine grow_step ?_ (by assumption)) | (with_reducible refine grow_base ?_ (by assumption))))) iE2).mono ?_
        rintro e w21 ⟨rfl, hb21⟩
        go_wp2_with fail
        go_ret
        exact ⟨rfl, (by repeat (first | (with_reducible exact grow_refl _) | (with_reducible assumption) | (with_reducible refine grow_alloc ?_ _) | (with_reducible refine grow_set ?_ (by first | exact Nat.le_refl _ | (simp; done) | (simp; omega) | omega) _) | (with_reducible refine grow_drewN ?_ _) | (with_reducible refine grow_drew ?_) | (with_reducible refine grow_step ?_ (by assumption)) | (with_reducible refine grow_base ?_ (by assumption))))⟩

set_option maxRecDepth 100000 in
theorem bankTells_walks (H : Type) (enc : TypeId × Value → H) : WalksD enc Tryd.prog Door 8 Tryd.f8 := by
  intro W base args ds p hval hA hlt hsz hsh hdoor
  have hsz0 := hsz
  rw [Tryd.params8] at hA hval
  obtain ⟨v0, vs0, d0, ds0, p0, q0, hargs, rfl, rfl, h0, r0⟩ := trodAll_cons hA
  obtain ⟨v1, vs1, d1, ds1, p1, q1, rfl, rfl, rfl, h1, r1⟩ := trodAll_cons r0
  obtain ⟨v2, vs2, d2, ds2, p2, q2, rfl, rfl, rfl, h2, r2⟩ := trodAll_cons r1
  obtain ⟨v3, vs3, d3, ds3, p3, q3, rfl, rfl, rfl, h3, r3⟩ := trodAll_cons r2
  obtain ⟨v4, vs4, d4, ds4, p4, q4, rfl, rfl, rfl, h4, r4⟩ := trodAll_cons r3
  obtain ⟨rfl, rfl, rfl⟩ := trodAll_nil r4
  obtain rfl : args = #[v0, v1, v2, v3, v4] := by cases args; simp_all
  obtain ⟨x00, x01, x02, x03, x04, x05, x06, x07, rfl, i00, i01, i02, i03, i04, i05, i06, i07⟩ := op_bank (hval 0 47 v0 rfl rfl)
  obtain ⟨a1, rfl, w1⟩ := op_int (hval 1 3 v1 rfl rfl) h1
  obtain ⟨a2, rfl, w2⟩ := op_int (hval 2 3 v2 rfl rfl) h2
  obtain ⟨a3, rfl, w3⟩ := op_int (hval 3 3 v3 rfl rfl) h3
  obtain ⟨x40, x41, x42, x43, x44, x45, x46, x47, rfl, i40, i41, i42, i43, i44, i45, i46, i47⟩ := op_bank (hval 4 47 v4 rfl rfl)
  exact bankTells_walk W x00 x01 x02 x03 x04 x05 x06 x07 a1 a2 a3 x40 x41 x42 x43 x44 x45 x46 x47 w1 w2 w3 hdoor

set_option maxRecDepth 100000 in
theorem bankTells_lifted (os : Os) (started : os.Started) (H : Type) (enc : TypeId × Value → H) :
    ReturnsInHanded {} Tryd.checked os 8 .any (fun w args => (Rows.bankTellsSpec.pre enc Tryd.checked.prog Tryd.f8 [] false w args ∧ laidMetH Tryd.checked.prog LaidD w) ∧ sizedMet enc Tryd.checked.prog Tryd.f8 (OpenSpec.ofChange Rows.bankTellsSpec) false w args) (Rows.bankTellsSpec.post enc Tryd.checked.prog Tryd.f8 false true false false) :=
  returns_of_walkD (C := Tryd.checked) (s := Rows.bankTellsSpec) (L := LaidD) (D := Door) own started (by kernel_rfl) Tryd.func8
    (ChangeSpec.witness_at (enc := enc) (C := Tryd.checked) (os := os) (X := fun w _ => laidMetH Tryd.prog LaidD w) false (laidWorld os) #[.agg #[.int .i64 0, .int .i64 0, .int .i64 0, .int .i64 0, .int .i64 0, .int .i64 0, .int .i64 0, .int .i64 0], .int .i64 0, .int .i64 0, .int .i64 0, .agg #[.int .i64 0, .int .i64 0, .int .i64 0, .int .i64 0, .int .i64 0, .int .i64 0, .int .i64 0, .int .i64 0]] 8 rfl (by kernel_rfl) (by kernel_rfl) (by kernel_rfl) (by kernel_rfl) (by kernel_rfl) (laidWorld_met os _))
    (fun W h => door_of_laid h) laidOut (by kernel_rfl) rfl Tryd.underlying4 rfl (fun ds h => by match ds, h with | [_, _, _, _, _], _ => rfl) (bankTells_walks H enc)

theorem bankTells_bare : Rows.BankTellsSaid :=
  OpenClaim.holds_of_wide 8 Tryd.f8 rfl rfl rfl rfl rfl rfl rfl ⟨rfl, rfl, rfl, rfl, rfl⟩ rfl rfl rfl rfl rfl (by kernel_rfl) Tryd.func8 (by kernel_rfl)
    (of_decide_eq_true (by kernel_rfl)) (by unfold Func.isWrapper; rw [if_neg (of_decide_eq_false (by kernel_rfl))]; exact ⟨rfl, rfl⟩)
    (fun os started H enc _ => bankTells_lifted os started H enc)

theorem bankTells_holds : Rows.BankTellsCardSaid :=
  Claim7.holds_tied_plain_at .later [] [.handle] true Rows.bankTellsCard.stood.harness true
    bankTells_bare (fun _ h => by cases h) (by kernel_rfl) (fun _ h => by cases h) bankTells_row_tie rfl ⟨rfl, rfl⟩ (by kernel_rfl) rfl
    (fun f fn hf hfn => by
      obtain rfl : f = 8 := Option.some.inj ((show Tryd.prog.funcNamed "bootstair/stairlaw1.BankTells" = some 8 by kernel_rfl).symm.trans hf) |>.symm
      obtain rfl : fn = Tryd.f8 := (Option.some.inj (Tryd.func8.symm.trans hfn)).symm
      exact ⟨by kernel_rfl, fun j t ht => by
        have hm : t ∈ Tryd.f8.params.toList := by simpa using Array.mem_of_getElem? ht
        have hall : (Tryd.f8.params.toList.all fun u => !Tryd.prog.wantsStandIn u) = true := by kernel_rfl
        exact (show Tryd.prog.wantsStandIn t = false by simpa using List.all_eq_true.1 hall t hm)⟩)
    (by kernel_rfl)

end Go.Proofs.YtebecndmlgolpaaDoor
