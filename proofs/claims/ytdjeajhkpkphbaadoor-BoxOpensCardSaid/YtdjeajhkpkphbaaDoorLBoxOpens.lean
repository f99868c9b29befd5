/- BoxOpens: it opens where it was closed, where all that it asks for is alike, and there just its secret comes out; where one register alone that it asks for went further it stays closed. The package variable errors.errorType holds what the program's text lays. -/
import Derived.Test.YtdjeajhkpkphbaaDoorRows
import Derived.Test.YtdjeajhkpkphbaaDoorOpen
import Derived.Test.YtdjeajhkpkphbaaDoorBox
import Derived.Test.YtdjeajhkpkphbaaDoorBank2
import Derived.Test.YtdjeajhkpkphbaaDoorBank3
import Derived.Test.YtdjeajhkpkphbaaDoorDigPlain
import Derived.Test.YtdjeajhkpkphbaaDoorTold
import Derived.Test.YtdjeajhkpkphbaaDoorBds
import Derived.Test.YtdjeajhkpkphbaaDoorLiftD
import Derived.WalkKit
import Derived.Lib.Hide
import Derived.Deep.CutRange
import Derived.Deep.DeepCutAuto
namespace Go.Proofs.YtdjeajhkpkphbaaDoor
open Go.ChangeShapes Go.WideShapes Go.ChangeAt Go.RowKit
set_option linter.unusedVariables false
set_option maxRecDepth 100000

theorem lit_close : clE 7 1 [0, 0, 0, 0, 0, 0, 0, 0] = 0 ∧ clM 7 1 [0, 0, 0, 0, 0, 0, 0, 0] = 1 ∧ clL 7 1 [0, 0, 0, 0, 0, 0, 0, 0] = 7921 ∧ clI 7 1 [0, 0, 0, 0, 0, 0, 0, 0] = 7929 := by decide
theorem lit_open : opE 1 7921 7929 [0, 0, 0, 0, 0, 0, 0, 0] = 0 ∧ opM 1 7921 7929 [0, 0, 0, 0, 0, 0, 0, 0] = 7 := by decide
theorem same_ok {a b : List Int} {m : Int} (h : sameE a b m = 0) : a.all okM = true ∧ b.all okM = true ∧ okMask m = true ∧ sameB a b m = (toldM a m == toldM b m) := by
  unfold sameE at h
  cases hb : (a.all okM && b.all okM && okMask m)
  · rw [hb] at h; exact absurd h (by decide)
  · have hb2 := hb
    simp only [Bool.and_eq_true] at hb2
    exact ⟨hb2.1.1, hb2.1.2, hb2.2, by unfold sameB; rw [hb, Bool.true_and]⟩

set_option maxHeartbeats 8000000 in
theorem boxOpens_walk (w : World) (s m : Int) (x0 x1 x2 x3 x4 x5 x6 x7 : Int) (y0 y1 y2 y3 y4 y5 y6 y7 : Int) (i k : Int) (is : I64 s) (im : I64 m) (ii : I64 i) (ik : I64 k) (hg : Door w) :
    Calls Tryd.prog 3 #[.int .i64 s, .int .i64 m, .agg #[.int .i64 x0, .int .i64 x1, .int .i64 x2, .int .i64 x3, .int .i64 x4, .int .i64 x5, .int .i64 x6, .int .i64 x7], .agg #[.int .i64 y0, .int .i64 y1, .int .i64 y2, .int .i64 y3, .int .i64 y4, .int .i64 y5, .int .i64 y6, .int .i64 y7], .int .i64 i, .int .i64 k] w fun e w' => e = .returned (.bool true) ∧ Below w.heap.size w w' := by
  have en := fun k w => err_neq k w
  have ee := fun k w => err_eql k w
  have gn := fun o k w => err_guard_neq o k w
  have ge := fun o k w => err_guard_eql o k w
  have HG := Lib.hid hg
  have HN := Lib.hid (((Box.new w 23 #[.int .i64 x0, .int .i64 x1, .int .i64 x2, .int .i64 x3, .int .i64 x4, .int .i64 x5, .int .i64 x6, .int .i64 x7]).alloc_ (.cells #[.int .i64 y0, .int .i64 y1, .int .i64 y2, .int .i64 y3, .int .i64 y4, .int .i64 y5, .int .i64 y6, .int .i64 y7] 23)).alloc_ (.cells #[.int .i64 0, .int .i64 0, .int .i64 0, .int .i64 0, .int .i64 0, .int .i64 0, .int .i64 0, .int .i64 0] 23))
  have HM : Hid (Box (((w.alloc (.cells #[.int .i64 x0, .int .i64 x1, .int .i64 x2, .int .i64 x3, .int .i64 x4, .int .i64 x5, .int .i64 x6, .int .i64 x7] 23)).alloc (.cells #[.int .i64 y0, .int .i64 y1, .int .i64 y2, .int .i64 y3, .int .i64 y4, .int .i64 y5, .int .i64 y6, .int .i64 y7] 23)).alloc (.cells #[.int .i64 0, .int .i64 0, .int .i64 0, .int .i64 0, .int .i64 0, .int .i64 0, .int .i64 0, .int .i64 0] 23)) (w.heap.size + 1) 23 #[.int .i64 y0, .int .i64 y1, .int .i64 y2, .int .i64 y3, .int .i64 y4, .int .i64 y5, .int .i64 y6, .int .i64 y7]) := Lib.hid (by
    have h := (Box.new (w.alloc (.cells #[.int .i64 x0, .int .i64 x1, .int .i64 x2, .int .i64 x3, .int .i64 x4, .int .i64 x5, .int .i64 x6, .int .i64 x7] 23)) 23 #[.int .i64 y0, .int .i64 y1, .int .i64 y2, .int .i64 y3, .int .i64 y4, .int .i64 y5, .int .i64 y6, .int .i64 y7]).alloc_ (.cells #[.int .i64 0, .int .i64 0, .int .i64 0, .int .i64 0, .int .i64 0, .int .i64 0, .int .i64 0, .int .i64 0] 23)
    have e : (w.alloc (.cells #[.int .i64 x0, .int .i64 x1, .int .i64 x2, .int .i64 x3, .int .i64 x4, .int .i64 x5, .int .i64 x6, .int .i64 x7] 23)).heap.size = w.heap.size + 1 := by simp
    rw [e] at h; exact h)
  have HO : Hid (Box (((w.alloc (.cells #[.int .i64 x0, .int .i64 x1, .int .i64 x2, .int .i64 x3, .int .i64 x4, .int .i64 x5, .int .i64 x6, .int .i64 x7] 23)).alloc (.cells #[.int .i64 y0, .int .i64 y1, .int .i64 y2, .int .i64 y3, .int .i64 y4, .int .i64 y5, .int .i64 y6, .int .i64 y7] 23)).alloc (.cells #[.int .i64 0, .int .i64 0, .int .i64 0, .int .i64 0, .int .i64 0, .int .i64 0, .int .i64 0, .int .i64 0] 23)) (w.heap.size + 2) 23 #[.int .i64 0, .int .i64 0, .int .i64 0, .int .i64 0, .int .i64 0, .int .i64 0, .int .i64 0, .int .i64 0]) := Lib.hid (by
    have h := Box.new ((w.alloc (.cells #[.int .i64 x0, .int .i64 x1, .int .i64 x2, .int .i64 x3, .int .i64 x4, .int .i64 x5, .int .i64 x6, .int .i64 x7] 23)).alloc (.cells #[.int .i64 y0, .int .i64 y1, .int .i64 y2, .int .i64 y3, .int .i64 y4, .int .i64 y5, .int .i64 y6, .int .i64 y7] 23)) 23 #[.int .i64 0, .int .i64 0, .int .i64 0, .int .i64 0, .int .i64 0, .int .i64 0, .int .i64 0, .int .i64 0]
    have e : ((w.alloc (.cells #[.int .i64 x0, .int .i64 x1, .int .i64 x2, .int .i64 x3, .int .i64 x4, .int .i64 x5, .int .i64 x6, .int .i64 x7] 23)).alloc (.cells #[.int .i64 y0, .int .i64 y1, .int .i64 y2, .int .i64 y3, .int .i64 y4, .int .i64 y5, .int .i64 y6, .int .i64 y7] 23)).heap.size = w.heap.size + 2 := by simp
    rw [e] at h; exact h)
  have L1 := Lib.hid lit_close
  have L2 := Lib.hid lit_open
  obtain ⟨B, hB⟩ : ∃ B, [x0, x1, x2, x3, x4, x5, x6, x7] = B := ⟨_, rfl⟩
  obtain ⟨C, hC⟩ : ∃ C, [y0, y1, y2, y3, y4, y5, y6, y7] = C := ⟨_, rfl⟩
  have HB := Lib.hid hB
  have HC := Lib.hid hC
  have HB8 : Hid (B.length = 8) := Lib.hid (by rw [← hB]; rfl)
  clear hg hB hC
  go_enter Tryd.func3, Tryd.ntmps3
  go_wp2_with fail
  refine (close_any 7 1 0 0 0 0 0 0 0 0 _).mono ?_
  rintro e w1 ⟨rfl, hb1⟩
  rw [L1.out.1, L1.out.2.1, L1.out.2.2.1, L1.out.2.2.2]
  have BB1 := Lib.hid (HN.out.below hb1)
  have BC1 := Lib.hid (HM.out.below hb1)
  have BO1 := Lib.hid (HO.out.below hb1)
  have cO := BO1.out.cell
  have lO := BO1.out.lt
  go_wp2_with fail
  clear cO
  refine (open_any 1 7921 7929 0 0 0 0 0 0 0 0 _).mono ?_
  rintro e w2 ⟨rfl, hb2⟩
  rw [L2.out.1, L2.out.2]
  have BB2 := Lib.hid ((BB1.out.alloc_ _).below hb2)
  have BC2 := Lib.hid ((BC1.out.alloc_ _).below hb2)
  have cB := BB2.out.cell
  have lB := BB2.out.lt
  go_wp2_with fail
  clear cB
  refine (close_any s m x0 x1 x2 x3 x4 x5 x6 x7 _).mono ?_
  rintro e w3 ⟨rfl, hb3⟩
  rw [HB.out]
  have BB3 := Lib.hid (BB2.out.below hb3)
  have BC3 := Lib.hid (BC2.out.below hb3)
  obtain ⟨E, hE⟩ : ∃ E, clE s m B = E := ⟨_, rfl⟩
  rw [hE]
  have HE := Lib.hid hE
  clear hE
  by_cases h0 : E = 0
  · have t : (E != 0) = false := by simp [h0]
    have HK := Lib.hid (close_ok (HE.out.trans h0))
    have HCE : Hid (clE s m B = 0) := Lib.hid (HE.out.trans h0)
    subst h0
    rw [HK.out.2.2.2.1]
    obtain ⟨L, hL⟩ : ∃ L, clL s m B = L := ⟨_, rfl⟩
    obtain ⟨I, hI⟩ : ∃ I, clI s m B = I := ⟨_, rfl⟩
    rw [hL, hI]
    have HOp : Hid (∀ c : List Int, c.all okM = true → opE m L I c = (if isM c m = isM B m then 0 else 8) ∧ (isM c m = isM B m → opM m L I c = s)) := Lib.hid (fun c hc => by
      have h := open_of HCE.out hc
      rw [hL, hI] at h; exact h)
    clear hL hI
    have HOwn : Hid (opE m L I B = 0 ∧ opM m L I B = s) := Lib.hid (by
      have h := HOp.out B HK.out.2.1
      exact ⟨by rw [h.1, if_pos rfl], h.2 rfl⟩)
    have cB := BB3.out.cell
    have lB3 := BB3.out.lt
    go_wp2_with fail
    have BX := Lib.hid (Box.new w3 25 #[.int .i64 m, .int .i64 L, .int .i64 I])
    clear cB
    refine (open_any m L I x0 x1 x2 x3 x4 x5 x6 x7 _).mono ?_
    rintro e w4 ⟨rfl, hb4⟩
    rw [HB.out, HOwn.out.1, HOwn.out.2]
    have BB4 := Lib.hid ((BB3.out.alloc_ _).below hb4)
    have BC4 := Lib.hid ((BC3.out.alloc_ _).below hb4)
    have BX4 := Lib.hid (BX.out.below hb4)
    have cB := BB4.out.cell
    have lB4 := BB4.out.lt
    have cC := BC4.out.cell
    have lC4 := BC4.out.lt
    have ts : (s != s) = false := by simp
    go_wp2_with fail
    clear cB cC
    refine (same_any x0 x1 x2 x3 x4 x5 x6 x7 y0 y1 y2 y3 y4 y5 y6 y7 m _).mono ?_
    rintro e w5 ⟨rfl, hb5⟩
    rw [HB.out, HC.out]
    have BB5 := Lib.hid (BB4.out.below hb5)
    have BC5 := Lib.hid (BC4.out.below hb5)
    have BX5 := Lib.hid (BX4.out.below hb5)
    obtain ⟨S, hS⟩ : ∃ S, sameB B C m = S := ⟨_, rfl⟩
    obtain ⟨E2, hE2⟩ : ∃ E2, sameE B C m = E2 := ⟨_, rfl⟩
    rw [hS, hE2]
    have HS := Lib.hid hS
    have HE2 := Lib.hid hE2
    clear hS hE2
    go_upto_region 13 with fail
    go_cut [83] (fun t wx => ∃ Tb : Bool, t = .bool Tb ∧ Hid (Tb = true → C.all okM = true ∧ isM C m = isM B m) ∧ Below w.heap.size w wx ∧ Hid (Box wx w.heap.size 23 #[.int .i64 x0, .int .i64 x1, .int .i64 x2, .int .i64 x3, .int .i64 x4, .int .i64 x5, .int .i64 x6, .int .i64 x7]) ∧ Hid (Box wx (w.heap.size + 1) 23 #[.int .i64 y0, .int .i64 y1, .int .i64 y2, .int .i64 y3, .int .i64 y4, .int .i64 y5, .int .i64 y6, .int .i64 y7]) ∧ Hid (Box wx w3.heap.size 25 #[.int .i64 m, .int .i64 L, .int .i64 I]))
    case first =>
      by_cases h2 : E2 = 0
      · have t2 : (E2 == 0) = true := by simp [h2]
        have HSO := Lib.hid (same_ok (HE2.out.trans h2))
        have HIm : Hid (S = true → C.all okM = true ∧ isM C m = isM B m) := Lib.hid (fun h => ⟨HSO.out.2.1, (dig_alike (by rw [← HSO.out.2.2.2, HS.out]; exact h)).symm⟩)
        clear h2
        go_wp2_with fail
        go_meet
        exact ⟨S, rfl, HIm, (by repeat (first | (with_reducible exact grow_refl _) | (with_reducible assumption) | (with_reducible refine grow_alloc ?_ _) | (with_reducible refine grow_set ?_ (by first | exact Nat.le_refl _ | (simp; done) | (simp; omega) | omega) _) | (with_reducible refine grow_drewN ?_ _) | (with_reducible refine grow_drew ?_) | (with_reducible refine grow_step ?_ (by assumption)) | (with_reducible refine grow_base ?_ (by assumption)))), BB5, BC5, BX5⟩
      · have t2 : (E2 == 0) = false := by simpa using h2
        clear h2
        go_wp2_with fail
        go_meet
        exact ⟨false, rfl, Lib.hid (fun h => absurd h (by decide)), (by repeat (first | (with_reducible exact grow_refl _) | (with_reducible assumption) | (with_reducible refine grow_alloc ?_ _) | (with_reducible refine grow_set ?_ (by first | exact Nat.le_refl _ | (simp; done) | (simp; omega) | omega) _) | (with_reducible refine grow_drewN ?_ _) | (with_reducible refine grow_drew ?_) | (with_reducible refine grow_step ?_ (by assumption)) | (with_reducible refine grow_base ?_ (by assumption)))), BB5, BC5, BX5⟩
    case rest =>
    obtain ⟨Tb, rfl, HT, hb6, BB6, BC6, BX6⟩ := hcut
    go_upto_if 83 with fail
    go_cut [23, 24] (fun _ _ wx => Below w.heap.size w wx ∧ Hid (Box wx w.heap.size 23 #[.int .i64 x0, .int .i64 x1, .int .i64 x2, .int .i64 x3, .int .i64 x4, .int .i64 x5, .int .i64 x6, .int .i64 x7]) ∧ Hid (Box wx w3.heap.size 25 #[.int .i64 m, .int .i64 L, .int .i64 I]))
    case first =>
      cases Tb
      · go_wp2_with fail
        go_meet
        exact ⟨(by repeat (first | (with_reducible exact grow_refl _) | (with_reducible assumption) | (with_reducible refine grow_alloc ?_ _) | (with_reducible refine grow_set ?_ (by first | exact Nat.le_refl _ | (simp; done) | (simp; omega) | omega) _) | (with_reducible refine grow_drewN ?_ _) | (with_reducible refine grow_drew ?_) | (with_reducible refine grow_step ?_ (by assumption)) | (with_reducible refine grow_base ?_ (by assumption)))), BB6, BX6⟩
      · have HT2 := Lib.hid (HT.out rfl)
        have HOC : Hid (opE m L I C = 0 ∧ opM m L I C = s) := Lib.hid (by
          have h := HOp.out C HT2.out.1
          exact ⟨by rw [h.1, if_pos HT2.out.2], h.2 HT2.out.2⟩)
        have cC := BC6.out.cell
        have lC := BC6.out.lt
        have cX := BX6.out.cell
        have lX := BX6.out.lt
        go_wp2_with fail
        clear cC cX
        refine (open_any m L I y0 y1 y2 y3 y4 y5 y6 y7 _).mono ?_
        rintro e w7 ⟨rfl, hb7⟩
        rw [HC.out, HOC.out.1, HOC.out.2]
        have BB7 := Lib.hid (BB6.out.below hb7)
        have BX7 := Lib.hid (BX6.out.below hb7)
        go_wp2_with fail
        go_meet
        exact ⟨(by repeat (first | (with_reducible exact grow_refl _) | (with_reducible assumption) | (with_reducible refine grow_alloc ?_ _) | (with_reducible refine grow_set ?_ (by first | exact Nat.le_refl _ | (simp; done) | (simp; omega) | omega) _) | (with_reducible refine grow_drewN ?_ _) | (with_reducible refine grow_drew ?_) | (with_reducible refine grow_step ?_ (by assumption)) | (with_reducible refine grow_base ?_ (by assumption)))), BB7, BX7⟩
    case rest =>
    obtain ⟨hb8, BB8, BX8⟩ := hcut
    have cB := BB8.out.cell
    have lB8 := BB8.out.lt
    go_wp2_with fail
    clear cB
    refine (extend_any x0 x1 x2 x3 x4 x5 x6 x7 i k _).mono ?_
    rintro e w9 ⟨z0, z1, z2, z3, z4, z5, z6, z7, hz, rfl, hb9⟩
    rw [HB.out] at hz ⊢
    have HZ := Lib.hid hz
    clear hz
    have BB9 := Lib.hid (BB8.out.below hb9)
    have BX9 := Lib.hid (BX8.out.below hb9)
    cases ho : extOk B i k
    · have HXE := Lib.hid (ext_no ho).2
      clear ho
      rw [HXE.out]
      go_wp2_with fail
      go_ret
      exact ⟨rfl, (by repeat (first | (with_reducible exact grow_refl _) | (with_reducible assumption) | (with_reducible refine grow_alloc ?_ _) | (with_reducible refine grow_set ?_ (by first | exact Nat.le_refl _ | (simp; done) | (simp; omega) | omega) _) | (with_reducible refine grow_drewN ?_ _) | (with_reducible refine grow_drew ?_) | (with_reducible refine grow_step ?_ (by assumption)) | (with_reducible refine grow_base ?_ (by assumption))))⟩
    · have hy := ext_yes ho
      have HXE := Lib.hid hy.2
      have ho2 := ho
      unfold extOk at ho2
      simp only [Bool.and_eq_true] at ho2
      obtain ⟨⟨hall, hr⟩, hk⟩ := ho2
      have hr' := okReg_yes hr
      obtain ⟨r, hri⟩ : ∃ r : Nat, i = (r : Int) := ⟨i.toNat, by omega⟩
      have hr8 : r < 8 := by omega
      obtain ⟨v, hv⟩ : ∃ v, pairM (B.getD r 0) k = v := ⟨_, rfl⟩
      have hd : [z0, z1, z2, z3, z4, z5, z6, z7] = B.set r v := by rw [HZ.out, hy.1, hri, Int.toNat_natCast, hv]
      have okv : okM v = true := by rw [← hv]; exact pairM_ok _ _
      have hdok : (B.set r v).all okM = true := all_set hall okv
      have HD := Lib.hid hd
      have HS2 : Hid (sameE B (B.set r v) m = 0 ∧ sameB B (B.set r v) m = (toldM B m == toldM (B.set r v) m)) := Lib.hid (by
        have e : sameE B (B.set r v) m = 0 := by unfold sameE; rw [hall, hdok, HK.out.2.2.1]; rfl
        exact ⟨e, (same_ok e).2.2.2⟩)
      have HOD := Lib.hid (HOp.out (B.set r v) hdok)
      have HAp : Hid ((toldM B m == toldM (B.set r v) m) = false → isM B m ≠ isM (B.set r v) m) := Lib.hid (fun h => dig_apart hall HB8.out hr8 okv h)
      clear ho hy hall hr hk hr' hri hr8 hv hd okv hdok
      rw [HXE.out]
      have cB := BB9.out.cell
      have lB9 := BB9.out.lt
      go_wp2_with fail
      have BD := Lib.hid (Box.new w9 23 #[.int .i64 z0, .int .i64 z1, .int .i64 z2, .int .i64 z3, .int .i64 z4, .int .i64 z5, .int .i64 z6, .int .i64 z7])
      have lX9 := BX9.out.lt
      clear cB
      refine (same_any x0 x1 x2 x3 x4 x5 x6 x7 z0 z1 z2 z3 z4 z5 z6 z7 m _).mono ?_
      rintro e w10 ⟨rfl, hb10⟩
      rw [HB.out, HD.out, HS2.out.1, HS2.out.2]
      have BX10 := Lib.hid ((BX9.out.alloc_ _).below hb10)
      have BD10 := Lib.hid (BD.out.below hb10)
      have cX := BX10.out.cell
      have lX := BX10.out.lt
      have cD := BD10.out.cell
      have lD := BD10.out.lt
      obtain ⟨Al, hAl⟩ : ∃ Al, (toldM B m == toldM (B.set r v) m) = Al := ⟨_, rfl⟩
      rw [hAl]
      have HAl := Lib.hid hAl
      clear hAl
      go_wp2_with fail
      clear cX cD
      refine (open_any m L I z0 z1 z2 z3 z4 z5 z6 z7 _).mono ?_
      rintro e w11 ⟨rfl, hb11⟩
      rw [HD.out]
      cases Al
      · have h8 : opE m L I (B.set r v) = 8 := by rw [HOD.out.1, if_neg (fun h => HAp.out HAl.out h.symm)]
        have H8 := Lib.hid h8
        clear h8
        rw [H8.out]
        go_wp2_with fail
        refine (error_any 8 8 _ (HG.out.below (by repeat (first | (with_reducible exact grow_refl _) | (with_reducible assumption) | (with_reducible refine grow_alloc ?_ _) | (with_reducible refine grow_set ?_ (by first | exact Nat.le_refl _ | (simp; done) | (simp; omega) | omega) _) | (with_reducible refine grow_drewN ?_ _) | (with_reducible refine grow_drew ?_) | (with_reducible refine grow_step ?_ (by assumption)) | (with_reducible refine grow_base ?_ (by assumption))))) (i64_small (by decide) (by decide))).mono ?_
        rintro e w12 ⟨rfl, hb12⟩
        go_wp2_with fail
        go_ret
        exact ⟨rfl, (by repeat (first | (with_reducible exact grow_refl _) | (with_reducible assumption) | (with_reducible refine grow_alloc ?_ _) | (with_reducible refine grow_set ?_ (by first | exact Nat.le_refl _ | (simp; done) | (simp; omega) | omega) _) | (with_reducible refine grow_drewN ?_ _) | (with_reducible refine grow_drew ?_) | (with_reducible refine grow_step ?_ (by assumption)) | (with_reducible refine grow_base ?_ (by assumption))))⟩
      · have h8 : opE m L I (B.set r v) = 0 := by rw [HOD.out.1, if_pos (dig_alike HAl.out).symm]
        have H8 := Lib.hid h8
        clear h8
        rw [H8.out]
        go_wp2_with fail
        go_ret
        exact ⟨rfl, (by repeat (first | (with_reducible exact grow_refl _) | (with_reducible assumption) | (with_reducible refine grow_alloc ?_ _) | (with_reducible refine grow_set ?_ (by first | exact Nat.le_refl _ | (simp; done) | (simp; omega) | omega) _) | (with_reducible refine grow_drewN ?_ _) | (with_reducible refine grow_drew ?_) | (with_reducible refine grow_step ?_ (by assumption)) | (with_reducible refine grow_base ?_ (by assumption))))⟩
  · have t : (E != 0) = true := by simpa using h0
    clear h0
    go_wp2_with fail
    go_ret
    exact ⟨rfl, (by repeat (first | (with_reducible exact grow_refl _) | (with_reducible assumption) | (with_reducible refine grow_alloc ?_ _) | (with_reducible refine grow_set ?_ (by first | exact Nat.le_refl _ | (simp; done) | (simp; omega) | omega) _) | (with_reducible refine grow_drewN ?_ _) | (with_reducible refine grow_drew ?_) | (with_reducible refine grow_step ?_ (by assumption)) | (with_reducible refine grow_base ?_ (by assumption))))⟩

set_option maxRecDepth 100000 in
theorem boxOpens_walks (H : Type) (enc : TypeId × Value → H) : WalksD enc Tryd.prog Door 3 Tryd.f3 := by
  intro W base args ds p hval hA hlt hsz hsh hdoor
  have hsz0 := hsz
  rw [Tryd.params3] at hA hval
  obtain ⟨v0, vs0, d0, ds0, p0, q0, hargs, rfl, rfl, h0, r0⟩ := trodAll_cons hA
  obtain ⟨v1, vs1, d1, ds1, p1, q1, rfl, rfl, rfl, h1, r1⟩ := trodAll_cons r0
  obtain ⟨v2, vs2, d2, ds2, p2, q2, rfl, rfl, rfl, h2, r2⟩ := trodAll_cons r1
  obtain ⟨v3, vs3, d3, ds3, p3, q3, rfl, rfl, rfl, h3, r3⟩ := trodAll_cons r2
  obtain ⟨v4, vs4, d4, ds4, p4, q4, rfl, rfl, rfl, h4, r4⟩ := trodAll_cons r3
  obtain ⟨v5, vs5, d5, ds5, p5, q5, rfl, rfl, rfl, h5, r5⟩ := trodAll_cons r4
  obtain ⟨rfl, rfl, rfl⟩ := trodAll_nil r5
  obtain rfl : args = #[v0, v1, v2, v3, v4, v5] := by cases args; simp_all
  obtain ⟨a0, rfl, w0⟩ := op_int (hval 0 3 v0 rfl rfl) h0
  obtain ⟨a1, rfl, w1⟩ := op_int (hval 1 3 v1 rfl rfl) h1
  obtain ⟨x20, x21, x22, x23, x24, x25, x26, x27, rfl, i20, i21, i22, i23, i24, i25, i26, i27⟩ := op_bank (hval 2 23 v2 rfl rfl)
  obtain ⟨x30, x31, x32, x33, x34, x35, x36, x37, rfl, i30, i31, i32, i33, i34, i35, i36, i37⟩ := op_bank (hval 3 23 v3 rfl rfl)
  obtain ⟨a4, rfl, w4⟩ := op_int (hval 4 3 v4 rfl rfl) h4
  obtain ⟨a5, rfl, w5⟩ := op_int (hval 5 3 v5 rfl rfl) h5
  exact boxOpens_walk W a0 a1 x20 x21 x22 x23 x24 x25 x26 x27 x30 x31 x32 x33 x34 x35 x36 x37 a4 a5 w0 w1 w4 w5 hdoor

set_option maxRecDepth 100000 in
theorem boxOpens_lifted (os : Os) (started : os.Started) (H : Type) (enc : TypeId × Value → H) :
    ReturnsInHanded {} Tryd.checked os 3 .any (fun w args => (Rows.boxOpensSpec.pre enc Tryd.checked.prog Tryd.f3 [] false w args ∧ laidMetH Tryd.checked.prog LaidD w) ∧ sizedMet enc Tryd.checked.prog Tryd.f3 (OpenSpec.ofChange Rows.boxOpensSpec) false w args) (Rows.boxOpensSpec.post enc Tryd.checked.prog Tryd.f3 false true false false) :=
  returns_of_walkD (C := Tryd.checked) (s := Rows.boxOpensSpec) (L := LaidD) (D := Door) own started (by kernel_rfl) Tryd.func3
    (ChangeSpec.witness_at (enc := enc) (C := Tryd.checked) (os := os) (X := fun w _ => laidMetH Tryd.prog LaidD w) false (laidWorld os) #[.int .i64 0, .int .i64 0, .agg #[.int .i64 0, .int .i64 0, .int .i64 0, .int .i64 0, .int .i64 0, .int .i64 0, .int .i64 0, .int .i64 0], .agg #[.int .i64 0, .int .i64 0, .int .i64 0, .int .i64 0, .int .i64 0, .int .i64 0, .int .i64 0, .int .i64 0], .int .i64 0, .int .i64 0] 8 rfl (by kernel_rfl) (by kernel_rfl) (by kernel_rfl) (by kernel_rfl) (by kernel_rfl) (laidWorld_met os _))
    (fun W h => door_of_laid h) laidOut (by kernel_rfl) rfl Tryd.underlying4 rfl (fun ds h => by match ds, h with | [_, _, _, _, _, _], _ => rfl) (boxOpens_walks H enc)

theorem boxOpens_bare : Rows.BoxOpensSaid :=
  OpenClaim.holds_of_wide 3 Tryd.f3 rfl rfl rfl rfl rfl rfl rfl ⟨rfl, rfl, rfl, rfl, rfl⟩ rfl rfl rfl rfl rfl (by kernel_rfl) Tryd.func3 (by kernel_rfl)
    (of_decide_eq_true (by kernel_rfl)) (by unfold Func.isWrapper; rw [if_neg (of_decide_eq_false (by kernel_rfl))]; exact ⟨rfl, rfl⟩)
    (fun os started H enc _ => boxOpens_lifted os started H enc)

theorem boxOpens_holds : Rows.BoxOpensCardSaid :=
  Claim7.holds_tied_plain_at .later [] [.handle] true Rows.boxOpensCard.stood.harness true
    boxOpens_bare (fun _ h => by cases h) (by kernel_rfl) (fun _ h => by cases h) boxOpens_row_tie rfl ⟨rfl, rfl⟩ (by kernel_rfl) rfl
    (fun f fn hf hfn => by
      obtain rfl : f = 3 := Option.some.inj ((show Tryd.prog.funcNamed "bootstair/stairlaw1.BoxOpens" = some 3 by kernel_rfl).symm.trans hf) |>.symm
      obtain rfl : fn = Tryd.f3 := (Option.some.inj (Tryd.func3.symm.trans hfn)).symm
      exact ⟨by kernel_rfl, fun j t ht => by
        have hm : t ∈ Tryd.f3.params.toList := by simpa using Array.mem_of_getElem? ht
        have hall : (Tryd.f3.params.toList.all fun u => !Tryd.prog.wantsStandIn u) = true := by kernel_rfl
        exact (show Tryd.prog.wantsStandIn t = false by simpa using List.all_eq_true.1 hall t hm)⟩)
    (by kernel_rfl)

end Go.Proofs.YtdjeajhkpkphbaaDoor
