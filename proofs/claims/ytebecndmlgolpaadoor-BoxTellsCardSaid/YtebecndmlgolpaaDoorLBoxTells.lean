/- BoxTells: any secret closed, and any opened: the program's is the reference's. The package variable errors.errorType holds what the program's text lays. -/
import Derived.Test.YtebecndmlgolpaaDoorRows
import Derived.Test.YtebecndmlgolpaaDoorOpen
import Derived.Test.YtebecndmlgolpaaDoorOpS
import Derived.Test.YtebecndmlgolpaaDoorBox
import Derived.Test.YtebecndmlgolpaaDoorRefA
import Derived.Test.YtebecndmlgolpaaDoorRefB
import Derived.Test.YtebecndmlgolpaaDoorTold
import Derived.Test.YtebecndmlgolpaaDoorBds
import Derived.Test.YtebecndmlgolpaaDoorLiftD
import Derived.WalkKit
import Derived.Lib.Hide
import Derived.Deep.CutRange
import Derived.Deep.DeepCutAuto
import Derived.Deep.QuietTactic
import Derived.BigQuiet
namespace Go.Proofs.YtebecndmlgolpaaDoor
open Go.ChangeShapes Go.WideShapes Go.ChangeAt Go.RowKit
set_option linter.unusedVariables false
set_option maxRecDepth 100000

theorem digE_no {b : List Int} {m : Int} (h : digE b m = 0) : b.all okM = true ∧ 0 ≤ m ∧ m ≤ 255 ∧ digM b m = isM b m := by
  unfold digE at h
  cases hb : (b.all okM && okMask m)
  · rw [hb] at h; exact absurd h (by decide)
  · obtain ⟨h1, h2⟩ := Bool.and_eq_true_iff.1 hb
    have h3 := okMask_yes h2
    exact ⟨h1, h3.1, h3.2, by unfold digM; rw [hb, if_pos rfl]⟩
/-- The three that came in, boxed. -/
def Three (w wx : World) (b : Array Value) (x : Array Value) (c : Array Value) : Prop :=
  Box wx w.heap.size 47 b ∧ Box wx (w.heap.size + 1) 49 x ∧ Box wx (w.heap.size + 2) 47 c
theorem Three.below {w wx wy : World} {b x c : Array Value} (h : Three w wx b x c) (hb : Below wx.heap.size wx wy) : Three w wy b x c := ⟨h.1.below hb, h.2.1.below hb, h.2.2.below hb⟩
theorem Three.below3 {w wx : World} {b x c : Array Value} (h : Three w wx b x c) (u v z : Value) : Three w (((wx.setCell ⟨w.heap.size + 3, 0, none⟩ u).setCell ⟨w.heap.size + 3, 1, none⟩ v).setCell ⟨w.heap.size + 3, 2, none⟩ z) b x c :=
  ⟨((h.1.far (by simp) _).far (by simp) _).far (by simp) _, ((h.2.1.far (by simp) _).far (by simp) _).far (by simp) _, ((h.2.2.far (by simp) _).far (by simp) _).far (by simp) _⟩
theorem Three.new (w : World) (b x c : Array Value) : Three w (((w.alloc (.cells b 47)).alloc (.cells x 49)).alloc (.cells c 47)) b x c := by
  refine ⟨((Box.new _ _ _).alloc_ _).alloc_ _, ?_, ?_⟩
  · have h := (Box.new (w.alloc (.cells b 47)) 49 x).alloc_ (.cells c 47)
    have e : (w.alloc (.cells b 47)).heap.size = w.heap.size + 1 := by simp
    rw [e] at h; exact h
  · have h := Box.new ((w.alloc (.cells b 47)).alloc (.cells x 49)) 47 c
    have e : ((w.alloc (.cells b 47)).alloc (.cells x 49)).heap.size = w.heap.size + 2 := by simp
    rw [e] at h; exact h

set_option maxHeartbeats 4000000 in
theorem boxTells_walk (w : World) (s m : Int) (x0 x1 x2 x3 x4 x5 x6 x7 : Int) (xm xl xn : Int) (y0 y1 y2 y3 y4 y5 y6 y7 : Int) (is : I64 s) (im : I64 m) (i1 : I64 xm) (i2 : I64 xl) (i3 : I64 xn) (hg : Door w) :
    Calls Tryd.prog 5 #[.int .i64 s, .int .i64 m, .agg #[.int .i64 x0, .int .i64 x1, .int .i64 x2, .int .i64 x3, .int .i64 x4, .int .i64 x5, .int .i64 x6, .int .i64 x7], .agg #[.int .i64 xm, .int .i64 xl, .int .i64 xn], .agg #[.int .i64 y0, .int .i64 y1, .int .i64 y2, .int .i64 y3, .int .i64 y4, .int .i64 y5, .int .i64 y6, .int .i64 y7]] w fun e w' => e = .returned (.bool true) ∧ Below w.heap.size w w' := by
  have HG := Lib.hid hg
  have hT := Three.new w #[.int .i64 x0, .int .i64 x1, .int .i64 x2, .int .i64 x3, .int .i64 x4, .int .i64 x5, .int .i64 x6, .int .i64 x7] #[.int .i64 xm, .int .i64 xl, .int .i64 xn] #[.int .i64 y0, .int .i64 y1, .int .i64 y2, .int .i64 y3, .int .i64 y4, .int .i64 y5, .int .i64 y6, .int .i64 y7]
  have HW : Hid (Box ((((w.alloc (.cells #[.int .i64 x0, .int .i64 x1, .int .i64 x2, .int .i64 x3, .int .i64 x4, .int .i64 x5, .int .i64 x6, .int .i64 x7] 47)).alloc (.cells #[.int .i64 xm, .int .i64 xl, .int .i64 xn] 49)).alloc (.cells #[.int .i64 y0, .int .i64 y1, .int .i64 y2, .int .i64 y3, .int .i64 y4, .int .i64 y5, .int .i64 y6, .int .i64 y7] 47)).alloc (.cells #[.int .i64 0, .int .i64 0, .int .i64 0] 49)) (w.heap.size + 3) 49 #[.int .i64 0, .int .i64 0, .int .i64 0]) := Lib.hid (by
    have h := Box.new (((w.alloc (.cells #[.int .i64 x0, .int .i64 x1, .int .i64 x2, .int .i64 x3, .int .i64 x4, .int .i64 x5, .int .i64 x6, .int .i64 x7] 47)).alloc (.cells #[.int .i64 xm, .int .i64 xl, .int .i64 xn] 49)).alloc (.cells #[.int .i64 y0, .int .i64 y1, .int .i64 y2, .int .i64 y3, .int .i64 y4, .int .i64 y5, .int .i64 y6, .int .i64 y7] 47)) 49 #[.int .i64 0, .int .i64 0, .int .i64 0]
    have e : (((w.alloc (.cells #[.int .i64 x0, .int .i64 x1, .int .i64 x2, .int .i64 x3, .int .i64 x4, .int .i64 x5, .int .i64 x6, .int .i64 x7] 47)).alloc (.cells #[.int .i64 xm, .int .i64 xl, .int .i64 xn] 49)).alloc (.cells #[.int .i64 y0, .int .i64 y1, .int .i64 y2, .int .i64 y3, .int .i64 y4, .int .i64 y5, .int .i64 y6, .int .i64 y7] 47)).heap.size = w.heap.size + 3 := by simp
    rw [e] at h; exact h)
  have HT := Lib.hid (hT.below (grow_alloc (grow_refl _) (.cells #[.int .i64 0, .int .i64 0, .int .i64 0] 49)))
  clear hg hT
  go_enter Tryd.func5, Tryd.ntmps5
  go_upto_if 26 with (go_at_call 13; refine (rIs_any _ _).mono ?_; rintro e w' ⟨rfl, rfl⟩)
  go_cut [11, 12, 14] (fun e _ _ wx => e = .int .i64 (clE s m [x0, x1, x2, x3, x4, x5, x6, x7]) ∧ Below w.heap.size w wx ∧ Hid (Three w wx #[.int .i64 x0, .int .i64 x1, .int .i64 x2, .int .i64 x3, .int .i64 x4, .int .i64 x5, .int .i64 x6, .int .i64 x7] #[.int .i64 xm, .int .i64 xl, .int .i64 xn] #[.int .i64 y0, .int .i64 y1, .int .i64 y2, .int .i64 y3, .int .i64 y4, .int .i64 y5, .int .i64 y6, .int .i64 y7]) ∧ Hid (Box wx (w.heap.size + 3) 49 #[.int .i64 (clM s m [x0, x1, x2, x3, x4, x5, x6, x7]), .int .i64 (clL s m [x0, x1, x2, x3, x4, x5, x6, x7]), .int .i64 (clI s m [x0, x1, x2, x3, x4, x5, x6, x7])]))
  case first =>
    cases hs : okM s
    · have HE : Hid (clE s m [x0, x1, x2, x3, x4, x5, x6, x7] = 1 ∧ clM s m [x0, x1, x2, x3, x4, x5, x6, x7] = 0 ∧ clL s m [x0, x1, x2, x3, x4, x5, x6, x7] = 0 ∧ clI s m [x0, x1, x2, x3, x4, x5, x6, x7] = 0) := Lib.hid (by unfold clE clM clL clI clOk; rw [hs]; exact ⟨rfl, rfl, rfl, rfl⟩)
      go_wp2_with fail
      go_meet
      exact ⟨by rw [HE.out.1], (by repeat (first | (with_reducible exact grow_refl _) | (with_reducible assumption) | (with_reducible refine grow_alloc ?_ _) | (with_reducible refine grow_set ?_ (by first | exact Nat.le_refl _ | (simp; done) | (simp; omega) | omega) _) | (with_reducible refine grow_drewN ?_ _) | (with_reducible refine grow_drew ?_) | (with_reducible refine grow_step ?_ (by assumption)) | (with_reducible refine grow_base ?_ (by assumption)))), HT, by rw [HE.out.2.1, HE.out.2.2.1, HE.out.2.2.2]; exact HW⟩
    · have cB := HT.out.1.cell
      have lB := HT.out.1.lt
      rcases digE_01 [x0, x1, x2, x3, x4, x5, x6, x7] m with hd | hd
      · obtain ⟨hok, m1, m2, hdm⟩ := digE_no hd
        have hkd := digM_ok [x0, x1, x2, x3, x4, x5, x6, x7] m
        rw [hdm] at hkd
        obtain ⟨s1, s2⟩ := okM_yes hs
        obtain ⟨p1, p2⟩ := okM_yes (pairM_ok (isM [x0, x1, x2, x3, x4, x5, x6, x7] m) 2)
        have HE : Hid (clE s m [x0, x1, x2, x3, x4, x5, x6, x7] = 0 ∧ clM s m [x0, x1, x2, x3, x4, x5, x6, x7] = m ∧ clL s m [x0, x1, x2, x3, x4, x5, x6, x7] = pairM (isM [x0, x1, x2, x3, x4, x5, x6, x7] m) 1 ∧ clI s m [x0, x1, x2, x3, x4, x5, x6, x7] = (s + pairM (isM [x0, x1, x2, x3, x4, x5, x6, x7] m) 2) % 1000003) := Lib.hid (by
          have hc : clOk s m [x0, x1, x2, x3, x4, x5, x6, x7] = true := by unfold clOk; rw [hs, hd]; rfl
          unfold clE clM clL clI; rw [hc, hs, hd, hdm]; exact ⟨rfl, rfl, rfl, rfl⟩)
        have HD := Lib.hid hd
        have HOK := Lib.hid hok
        clear hd hok hdm
        go_wp2_with fail
        refine (rDigested_any x0 x1 x2 x3 x4 x5 x6 x7 m _).mono ?_
        rintro e w2 ⟨rfl, hb2⟩
        rw [HD.out]
        have HT2 := Lib.hid (HT.out.below hb2)
        have HW2 := Lib.hid (HW.out.below hb2)
        clear cB lB
        have cB := HT2.out.1.cell
        have lB := HT2.out.1.lt
        go_wp2_with fail
        refine (rDigest_any x0 x1 x2 x3 x4 x5 x6 x7 m _ m1 m2 HOK.out).mono ?_
        rintro e w3 ⟨rfl, hb3⟩
        have HT3 := Lib.hid (HT2.out.below hb3)
        have HW3 := Lib.hid (HW2.out.below hb3)
        clear cB lB
        have cW := HW3.out.cell
        have fW := HW3.out.frozen
        have lW := HW3.out.lt
        go_wp2_with (go_at_call 14; refine (rTwo_any _ _ _ hkd (by decide)).mono ?_; rintro e w' ⟨rfl, rfl⟩)
        go_meet
        refine ⟨by rw [HE.out.1], (by repeat (first | (with_reducible exact grow_refl _) | (with_reducible assumption) | (with_reducible refine grow_alloc ?_ _) | (with_reducible refine grow_set ?_ (by first | exact Nat.le_refl _ | (simp; done) | (simp; omega) | omega) _) | (with_reducible refine grow_drewN ?_ _) | (with_reducible refine grow_drew ?_) | (with_reducible refine grow_step ?_ (by assumption)) | (with_reducible refine grow_base ?_ (by assumption)))), Lib.hid ?_, Lib.hid ?_⟩
        · exact HT3.out.below3 _ _ _
        · rw [HE.out.2.1, HE.out.2.2.1, HE.out.2.2.2]
          exact HW3.out.fill3 _ _ _
      · have HE : Hid (clE s m [x0, x1, x2, x3, x4, x5, x6, x7] = 1 ∧ clM s m [x0, x1, x2, x3, x4, x5, x6, x7] = 0 ∧ clL s m [x0, x1, x2, x3, x4, x5, x6, x7] = 0 ∧ clI s m [x0, x1, x2, x3, x4, x5, x6, x7] = 0) := Lib.hid (by
          have hc : clOk s m [x0, x1, x2, x3, x4, x5, x6, x7] = false := by unfold clOk; rw [hs, hd]; rfl
          unfold clE clM clL clI; rw [hc, hs, hd]; exact ⟨rfl, rfl, rfl, rfl⟩)
        have HD := Lib.hid hd
        clear hd
        go_wp2_with fail
        refine (rDigested_any x0 x1 x2 x3 x4 x5 x6 x7 m _).mono ?_
        rintro e w2 ⟨rfl, hb2⟩
        rw [HD.out]
        have HT2 := Lib.hid (HT.out.below hb2)
        have HW2 := Lib.hid (HW.out.below hb2)
        go_wp2_with fail
        go_meet
        exact ⟨by rw [HE.out.1], (by repeat (first | (with_reducible exact grow_refl _) | (with_reducible assumption) | (with_reducible refine grow_alloc ?_ _) | (with_reducible refine grow_set ?_ (by first | exact Nat.le_refl _ | (simp; done) | (simp; omega) | omega) _) | (with_reducible refine grow_drewN ?_ _) | (with_reducible refine grow_drew ?_) | (with_reducible refine grow_step ?_ (by assumption)) | (with_reducible refine grow_base ?_ (by assumption)))), HT2, by rw [HE.out.2.1, HE.out.2.2.1, HE.out.2.2.2]; exact HW2⟩
  case rest =>
    obtain ⟨rfl, hb, HT1, HW1⟩ := hcut
    have cB := HT1.out.1.cell
    have lB := HT1.out.1.lt
    go_wp2_with fail
    refine (close_any s m x0 x1 x2 x3 x4 x5 x6 x7 _).mono ?_
    rintro e w2 ⟨rfl, hb2⟩
    have HT2 := Lib.hid (HT1.out.below hb2)
    have HW2 := Lib.hid (HW1.out.below hb2)
    have lW2 := HW2.out.lt
    clear cB lB
    obtain ⟨⟨u, v, z⟩, hu⟩ : ∃ t, (clM s m [x0, x1, x2, x3, x4, x5, x6, x7], clL s m [x0, x1, x2, x3, x4, x5, x6, x7], clI s m [x0, x1, x2, x3, x4, x5, x6, x7]) = t := ⟨_, rfl⟩
    simp only [Prod.mk.injEq] at hu
    rw [hu.1, hu.2.1, hu.2.2] at HW2 ⊢
    clear hu
    go_wp2_with fail
    have BZ := Box.new w2 49 #[.int .i64 u, .int .i64 v, .int .i64 z]
    refine (error_any _ _ _ (HG.out.below (by repeat (first | (with_reducible exact grow_refl _) | (with_reducible assumption) | (with_reducible refine grow_alloc ?_ _) | (with_reducible refine grow_set ?_ (by first | exact Nat.le_refl _ | (simp; done) | (simp; omega) | omega) _) | (with_reducible refine grow_drewN ?_ _) | (with_reducible refine grow_drew ?_) | (with_reducible refine grow_step ?_ (by assumption)) | (with_reducible refine grow_base ?_ (by assumption))))) (clE_bd _ _ _)).mono ?_
    rintro e w3 ⟨rfl, hb3⟩
    have BZ3 := BZ.below hb3
    have BW3 := (HW2.out.alloc_ _).below hb3
    have HT3 := Lib.hid ((HT2.out.below (grow_alloc (grow_refl _) _)).below hb3)
    have cZ := BZ3.cell
    have cW := BW3.cell
    have lZ := BZ3.lt
    have lW := BW3.lt
    have cX := HT3.out.2.1.cell
    have lX := HT3.out.2.1.lt
    go_upto_region 15 with (go_at_call 13; refine (rIs_any _ _).mono ?_; rintro e w' ⟨rfl, rfl⟩)
    clear cZ cW cX
    go_cut [18, 19, 68] (fun _ _ t wx => t = .bool (okM xl && okM xn) ∧ Below w.heap.size w wx ∧ Hid (Three w wx #[.int .i64 x0, .int .i64 x1, .int .i64 x2, .int .i64 x3, .int .i64 x4, .int .i64 x5, .int .i64 x6, .int .i64 x7] #[.int .i64 xm, .int .i64 xl, .int .i64 xn] #[.int .i64 y0, .int .i64 y1, .int .i64 y2, .int .i64 y3, .int .i64 y4, .int .i64 y5, .int .i64 y6, .int .i64 y7]))
    case first =>
      cases ha : okM xl
      all_goals
        go_wp2_with fail
        go_meet
        exact ⟨by rw [ha]; rfl, (by repeat (first | (with_reducible exact grow_refl _) | (with_reducible assumption) | (with_reducible refine grow_alloc ?_ _) | (with_reducible refine grow_set ?_ (by first | exact Nat.le_refl _ | (simp; done) | (simp; omega) | omega) _) | (with_reducible refine grow_drewN ?_ _) | (with_reducible refine grow_drew ?_) | (with_reducible refine grow_step ?_ (by assumption)) | (with_reducible refine grow_base ?_ (by assumption)))), HT3⟩
    case rest =>
    obtain ⟨rfl, hb4, HT4⟩ := hcut
    go_upto_if 68 with fail
    go_cut [11] (fun e wx => ∃ D, e = .int .i64 D ∧ Hid (D = if (okM xl && okM xn) = true then digE [y0, y1, y2, y3, y4, y5, y6, y7] xm else 1) ∧ Below w.heap.size w wx ∧ Hid (Three w wx #[.int .i64 x0, .int .i64 x1, .int .i64 x2, .int .i64 x3, .int .i64 x4, .int .i64 x5, .int .i64 x6, .int .i64 x7] #[.int .i64 xm, .int .i64 xl, .int .i64 xn] #[.int .i64 y0, .int .i64 y1, .int .i64 y2, .int .i64 y3, .int .i64 y4, .int .i64 y5, .int .i64 y6, .int .i64 y7]))
    case first =>
      cases hab : (okM xl && okM xn)
      · go_wp2_with fail
        go_meet
        exact ⟨1, rfl, Lib.hid (by rw [hab]; rfl), (by repeat (first | (with_reducible exact grow_refl _) | (with_reducible assumption) | (with_reducible refine grow_alloc ?_ _) | (with_reducible refine grow_set ?_ (by first | exact Nat.le_refl _ | (simp; done) | (simp; omega) | omega) _) | (with_reducible refine grow_drewN ?_ _) | (with_reducible refine grow_drew ?_) | (with_reducible refine grow_step ?_ (by assumption)) | (with_reducible refine grow_base ?_ (by assumption)))), HT4⟩
      · have cX := HT4.out.2.1.cell
        have lX := HT4.out.2.1.lt
        have cY := HT4.out.2.2.cell
        have lY := HT4.out.2.2.lt
        go_wp2_with fail
        refine (rDigested_any y0 y1 y2 y3 y4 y5 y6 y7 xm _).mono ?_
        rintro e w5 ⟨rfl, hb5⟩
        have HT5 := Lib.hid (HT4.out.below hb5)
        clear cX cY
        go_wp2_with fail
        go_meet
        exact ⟨_, rfl, Lib.hid (by rw [hab]; rfl), (by repeat (first | (with_reducible exact grow_refl _) | (with_reducible assumption) | (with_reducible refine grow_alloc ?_ _) | (with_reducible refine grow_set ?_ (by first | exact Nat.le_refl _ | (simp; done) | (simp; omega) | omega) _) | (with_reducible refine grow_drewN ?_ _) | (with_reducible refine grow_drew ?_) | (with_reducible refine grow_step ?_ (by assumption)) | (with_reducible refine grow_base ?_ (by assumption)))), HT5⟩
    case rest =>
    obtain ⟨D, rfl, HD, hb5, HT5⟩ := hcut
    have hop : opE xm xl xn [y0, y1, y2, y3, y4, y5, y6, y7] = (if D = 0 then (if pairM (digM [y0, y1, y2, y3, y4, y5, y6, y7] xm) 1 = xl then 0 else 8) else D) ∧ (D = 0 → okM xl = true ∧ okM xn = true ∧ digE [y0, y1, y2, y3, y4, y5, y6, y7] xm = 0) := by
      have h := HD.out
      cases hab : (okM xl && okM xn)
      · rw [hab, if_neg (by decide)] at h
        subst h
        exact ⟨by unfold opE; rw [hab]; rfl, fun h => absurd h (by decide)⟩
      · rw [hab, if_pos rfl] at h
        subst h
        obtain ⟨h1, h2⟩ := Bool.and_eq_true_iff.1 hab
        exact ⟨by unfold opE; rw [hab, if_pos rfl], fun h => ⟨h1, h2, h⟩⟩
    have HO := Lib.hid hop
    clear hop HD
    go_upto_if 74 with fail
    go_cut [11, 20, 21] (fun e n _ wx => e = .int .i64 (opE xm xl xn [y0, y1, y2, y3, y4, y5, y6, y7]) ∧ n = .int .i64 (opM xm xl xn [y0, y1, y2, y3, y4, y5, y6, y7]) ∧ Below w.heap.size w wx ∧ Hid (Three w wx #[.int .i64 x0, .int .i64 x1, .int .i64 x2, .int .i64 x3, .int .i64 x4, .int .i64 x5, .int .i64 x6, .int .i64 x7] #[.int .i64 xm, .int .i64 xl, .int .i64 xn] #[.int .i64 y0, .int .i64 y1, .int .i64 y2, .int .i64 y3, .int .i64 y4, .int .i64 y5, .int .i64 y6, .int .i64 y7]))
    case first =>
      by_cases hD : D = 0
      · obtain ⟨h1, h2, h3⟩ := HO.out.2 hD
        have hE := HO.out.1
        rw [if_pos hD] at hE
        subst hD
        obtain ⟨hok, m1, m2, hdm⟩ := digE_no h3
        have hkd := digM_ok [y0, y1, y2, y3, y4, y5, y6, y7] xm
        rw [hdm] at hkd hE
        obtain ⟨n1, n2⟩ := okM_yes h2
        have HOK := Lib.hid hok
        have cX := HT5.out.2.1.cell
        have lX := HT5.out.2.1.lt
        have cY := HT5.out.2.2.cell
        have lY := HT5.out.2.2.lt
        have HM : Hid (opM xm xl xn [y0, y1, y2, y3, y4, y5, y6, y7] = if opE xm xl xn [y0, y1, y2, y3, y4, y5, y6, y7] = 0 then (xn - pairM (isM [y0, y1, y2, y3, y4, y5, y6, y7] xm) 2 + 1000003) % 1000003 else 0) := Lib.hid (by unfold opM; rw [hdm])
        have HE := Lib.hid hE
        obtain ⟨d, hd⟩ : ∃ d, isM [y0, y1, y2, y3, y4, y5, y6, y7] xm = d := ⟨_, rfl⟩
        rw [hd] at HE HM hkd
        have HD := Lib.hid hd
        obtain ⟨p1, p2⟩ := okM_yes (pairM_ok d 2)
        clear hE hok h3 hdm hd h1 h2
        go_wp2_with fail
        refine (rDigest_any y0 y1 y2 y3 y4 y5 y6 y7 xm _ m1 m2 HOK.out).mono ?_
        rintro e w6 ⟨rfl, hb6⟩
        rw [HD.out]
        have HT6 := Lib.hid (HT5.out.below hb6)
        have hb7 : Below w.heap.size w w6 := (by repeat (first | (with_reducible exact grow_refl _) | (with_reducible assumption) | (with_reducible refine grow_alloc ?_ _) | (with_reducible refine grow_set ?_ (by first | exact Nat.le_refl _ | (simp; done) | (simp; omega) | omega) _) | (with_reducible refine grow_drewN ?_ _) | (with_reducible refine grow_drew ?_) | (with_reducible refine grow_step ?_ (by assumption)) | (with_reducible refine grow_base ?_ (by assumption))))
        clear cX cY lX lY
        have cX := HT6.out.2.1.cell
        have lX := HT6.out.2.1.lt
        go_wp2_with fail
        by_cases he : pairM d 1 = xl
        · have t : (pairM d 1 != xl) = false := by simp [he]
          have HF : Hid (opE xm xl xn [y0, y1, y2, y3, y4, y5, y6, y7] = 0 ∧ opM xm xl xn [y0, y1, y2, y3, y4, y5, y6, y7] = (xn - pairM d 2 + 1000003) % 1000003) := Lib.hid (by
            have e : opE xm xl xn [y0, y1, y2, y3, y4, y5, y6, y7] = 0 := by rw [HE.out, if_pos he]
            exact ⟨e, by rw [HM.out, if_pos e]⟩)
          clear he
          go_quiet ((go_at_call 14; exact Calls.quiet_of_same ((rTwo_any _ _ _ hkd (by decide)).mono (fun _ _ h => ⟨h.1, h.2.symm⟩))))
          go_wp2_with fail
          have q1 : IntKind.i64.wrap (xn - pairM d 2) = xn - pairM d 2 := IntWalk.i64_in _ (by omega)
          have q2 : IntKind.i64.wrap (xn - pairM d 2 + 1000003) = xn - pairM d 2 + 1000003 := IntWalk.i64_in _ (by omega)
          have q3 : (0 : Int) ≤ xn - pairM d 2 + 1000003 := by omega
          go_quiet ((go_at_call 14; exact quiet_add_same ((rTwo_any _ _ _ hkd (by decide)).mono (fun _ _ h => ⟨h.1, h.2.symm⟩))))
          clear q1 q2
          go_wp2_with fail
          go_meet
          exact ⟨by rw [HF.out.1], by rw [HF.out.2, ← Int.tmod_eq_emod_of_nonneg q3], (by repeat (first | (with_reducible exact grow_refl _) | (with_reducible assumption) | (with_reducible refine grow_alloc ?_ _) | (with_reducible refine grow_set ?_ (by first | exact Nat.le_refl _ | (simp; done) | (simp; omega) | omega) _) | (with_reducible refine grow_drewN ?_ _) | (with_reducible refine grow_drew ?_) | (with_reducible refine grow_step ?_ (by assumption)) | (with_reducible refine grow_base ?_ (by assumption)))), Lib.hid (HT6.out.below (by first | exact grow_drewN (grow_refl _) _ | exact grow_drewN (grow_drewN (grow_refl _) _) _))⟩
        · have t : (pairM d 1 != xl) = true := by simp [he]
          have HF : Hid (opE xm xl xn [y0, y1, y2, y3, y4, y5, y6, y7] = 8 ∧ opM xm xl xn [y0, y1, y2, y3, y4, y5, y6, y7] = 0) := Lib.hid (by
            have e : opE xm xl xn [y0, y1, y2, y3, y4, y5, y6, y7] = 8 := by rw [HE.out, if_neg he]
            exact ⟨e, by rw [HM.out, if_neg (by rw [e]; decide)]⟩)
          clear he
          go_quiet ((go_at_call 14; exact Calls.quiet_of_same ((rTwo_any _ _ _ hkd (by decide)).mono (fun _ _ h => ⟨h.1, h.2.symm⟩))))
          go_wp2_with fail
          go_meet
          exact ⟨by rw [HF.out.1], by rw [HF.out.2], (by repeat (first | (with_reducible exact grow_refl _) | (with_reducible assumption) | (with_reducible refine grow_alloc ?_ _) | (with_reducible refine grow_set ?_ (by first | exact Nat.le_refl _ | (simp; done) | (simp; omega) | omega) _) | (with_reducible refine grow_drewN ?_ _) | (with_reducible refine grow_drew ?_) | (with_reducible refine grow_step ?_ (by assumption)) | (with_reducible refine grow_base ?_ (by assumption)))), Lib.hid (HT6.out.below (by first | exact grow_drewN (grow_refl _) _ | exact grow_drewN (grow_drewN (grow_refl _) _) _))⟩
      · have t : (D == 0) = false := by simpa using hD
        have HF : Hid (opE xm xl xn [y0, y1, y2, y3, y4, y5, y6, y7] = D ∧ opM xm xl xn [y0, y1, y2, y3, y4, y5, y6, y7] = 0) := Lib.hid (by
          have e : opE xm xl xn [y0, y1, y2, y3, y4, y5, y6, y7] = D := by rw [HO.out.1, if_neg hD]
          exact ⟨e, by unfold opM; rw [if_neg (by rw [e]; exact hD)]⟩)
        clear hD
        go_wp2_with fail
        go_meet
        exact ⟨by rw [HF.out.1], by rw [HF.out.2], (by repeat (first | (with_reducible exact grow_refl _) | (with_reducible assumption) | (with_reducible refine grow_alloc ?_ _) | (with_reducible refine grow_set ?_ (by first | exact Nat.le_refl _ | (simp; done) | (simp; omega) | omega) _) | (with_reducible refine grow_drewN ?_ _) | (with_reducible refine grow_drew ?_) | (with_reducible refine grow_step ?_ (by assumption)) | (with_reducible refine grow_base ?_ (by assumption)))), HT5⟩
    case rest =>
    obtain ⟨rfl, rfl, hb8, HT8⟩ := hcut
    have cX := HT8.out.2.1.cell
    have lX := HT8.out.2.1.lt
    have cY := HT8.out.2.2.cell
    have lY := HT8.out.2.2.lt
    go_wp2_with fail
    refine (open_any xm xl xn y0 y1 y2 y3 y4 y5 y6 y7 _).mono ?_
    rintro e w9 ⟨rfl, hb9⟩
    clear cX cY
    go_wp2_with fail
    refine (error_any _ _ _ (HG.out.below (by repeat (first | (with_reducible exact grow_refl _) | (with_reducible assumption) | (with_reducible refine grow_alloc ?_ _) | (with_reducible refine grow_set ?_ (by first | exact Nat.le_refl _ | (simp; done) | (simp; omega) | omega) _) | (with_reducible refine grow_drewN ?_ _) | (with_reducible refine grow_drew ?_) | (with_reducible refine grow_step ?_ (by assumption)) | (with_reducible refine grow_base ?_ (by assumption))))) (opE_bd _ _ _ _)).mono ?_
    rintro e w10 ⟨rfl, hb10⟩
    go_wp2_with fail
    go_ret
    exact ⟨rfl, (by repeat (first | (with_reducible exact grow_refl _) | (with_reducible assumption) | (with_reducible refine grow_alloc ?_ _) | (with_reducible refine grow_set ?_ (by first | exact Nat.le_refl _ | (simp; done) | (simp; omega) | omega) _) | (with_reducible refine grow_drewN ?_ _) | (with_reducible refine grow_drew ?_) | (with_reducible refine grow_step ?_ (by assumption)) | (with_reducible refine grow_base ?_ (by assumption))))⟩

set_option maxRecDepth 100000 in
theorem boxTells_walks (H : Type) (enc : TypeId × Value → H) : WalksD enc Tryd.prog Door 5 Tryd.f5 := by
  intro W base args ds p hval hA hlt hsz hsh hdoor
  have hsz0 := hsz
  rw [Tryd.params5] at hA hval
  obtain ⟨v0, vs0, d0, ds0, p0, q0, hargs, rfl, rfl, h0, r0⟩ := trodAll_cons hA
  obtain ⟨v1, vs1, d1, ds1, p1, q1, rfl, rfl, rfl, h1, r1⟩ := trodAll_cons r0
  obtain ⟨v2, vs2, d2, ds2, p2, q2, rfl, rfl, rfl, h2, r2⟩ := trodAll_cons r1
  obtain ⟨v3, vs3, d3, ds3, p3, q3, rfl, rfl, rfl, h3, r3⟩ := trodAll_cons r2
  obtain ⟨v4, vs4, d4, ds4, p4, q4, rfl, rfl, rfl, h4, r4⟩ := trodAll_cons r3
  obtain ⟨rfl, rfl, rfl⟩ := trodAll_nil r4
  obtain rfl : args = #[v0, v1, v2, v3, v4] := by cases args; simp_all
  obtain ⟨a0, rfl, w0⟩ := op_int (hval 0 3 v0 rfl rfl) h0
  obtain ⟨a1, rfl, w1⟩ := op_int (hval 1 3 v1 rfl rfl) h1
  obtain ⟨x20, x21, x22, x23, x24, x25, x26, x27, rfl, i20, i21, i22, i23, i24, i25, i26, i27⟩ := op_bank (hval 2 47 v2 rfl rfl)
  obtain ⟨s30, s31, s32, rfl, q30, q31, q32⟩ := op_box (hval 3 49 v3 rfl rfl)
  obtain ⟨x40, x41, x42, x43, x44, x45, x46, x47, rfl, i40, i41, i42, i43, i44, i45, i46, i47⟩ := op_bank (hval 4 47 v4 rfl rfl)
  exact boxTells_walk W a0 a1 x20 x21 x22 x23 x24 x25 x26 x27 s30 s31 s32 x40 x41 x42 x43 x44 x45 x46 x47 w0 w1 q30 q31 q32 hdoor

set_option maxRecDepth 100000 in
theorem boxTells_lifted (os : Os) (started : os.Started) (H : Type) (enc : TypeId × Value → H) :
    ReturnsInHanded {} Tryd.checked os 5 .any (fun w args => (Rows.boxTellsSpec.pre enc Tryd.checked.prog Tryd.f5 [] false w args ∧ laidMetH Tryd.checked.prog LaidD w) ∧ sizedMet enc Tryd.checked.prog Tryd.f5 (OpenSpec.ofChange Rows.boxTellsSpec) false w args) (Rows.boxTellsSpec.post enc Tryd.checked.prog Tryd.f5 false true false false) :=
  returns_of_walkD (C := Tryd.checked) (s := Rows.boxTellsSpec) (L := LaidD) (D := Door) own started (by kernel_rfl) Tryd.func5
    (ChangeSpec.witness_at (enc := enc) (C := Tryd.checked) (os := os) (X := fun w _ => laidMetH Tryd.prog LaidD w) false (laidWorld os) #[.int .i64 0, .int .i64 0, .agg #[.int .i64 0, .int .i64 0, .int .i64 0, .int .i64 0, .int .i64 0, .int .i64 0, .int .i64 0, .int .i64 0], .agg #[.int .i64 0, .int .i64 0, .int .i64 0], .agg #[.int .i64 0, .int .i64 0, .int .i64 0, .int .i64 0, .int .i64 0, .int .i64 0, .int .i64 0, .int .i64 0]] 8 rfl (by kernel_rfl) (by kernel_rfl) (by kernel_rfl) (by kernel_rfl) (by kernel_rfl) (laidWorld_met os _))
    (fun W h => door_of_laid h) laidOut (by kernel_rfl) rfl Tryd.underlying4 rfl (fun ds h => by match ds, h with | [_, _, _, _, _], _ => rfl) (boxTells_walks H enc)

theorem boxTells_bare : Rows.BoxTellsSaid :=
  OpenClaim.holds_of_wide 5 Tryd.f5 rfl rfl rfl rfl rfl rfl rfl ⟨rfl, rfl, rfl, rfl, rfl⟩ rfl rfl rfl rfl rfl (by kernel_rfl) Tryd.func5 (by kernel_rfl)
    (of_decide_eq_true (by kernel_rfl)) (by unfold Func.isWrapper; rw [if_neg (of_decide_eq_false (by kernel_rfl))]; exact ⟨rfl, rfl⟩)
    (fun os started H enc _ => boxTells_lifted os started H enc)

theorem boxTells_holds : Rows.BoxTellsCardSaid :=
  Claim7.holds_tied_plain_at .later [] [.handle] true Rows.boxTellsCard.stood.harness true
    boxTells_bare (fun _ h => by cases h) (by kernel_rfl) (fun _ h => by cases h) boxTells_row_tie rfl ⟨rfl, rfl⟩ (by kernel_rfl) rfl
    (fun f fn hf hfn => by
      obtain rfl : f = 5 := Option.some.inj ((show Tryd.prog.funcNamed "bootstair/stairlaw1.BoxTells" = some 5 by kernel_rfl).symm.trans hf) |>.symm
      obtain rfl : fn = Tryd.f5 := (Option.some.inj (Tryd.func5.symm.trans hfn)).symm
      exact ⟨by kernel_rfl, fun j t ht => by
        have hm : t ∈ Tryd.f5.params.toList := by simpa using Array.mem_of_getElem? ht
        have hall : (Tryd.f5.params.toList.all fun u => !Tryd.prog.wantsStandIn u) = true := by kernel_rfl
        exact (show Tryd.prog.wantsStandIn t = false by simpa using List.all_eq_true.1 hall t hm)⟩)
    (by kernel_rfl)

end Go.Proofs.YtebecndmlgolpaaDoor
