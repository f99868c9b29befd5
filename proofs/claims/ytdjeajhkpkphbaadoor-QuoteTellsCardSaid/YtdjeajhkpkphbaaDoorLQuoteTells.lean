/- QuoteTells: any quote, whether any is right, and whether it tells of any bank: the program's is the reference's. The package variable errors.errorType holds what the program's text lays. -/
import Derived.Test.YtdjeajhkpkphbaaDoorRows
import Derived.Test.YtdjeajhkpkphbaaDoorOpen
import Derived.Test.YtdjeajhkpkphbaaDoorOpS
import Derived.Test.YtdjeajhkpkphbaaDoorQuote
import Derived.Test.YtdjeajhkpkphbaaDoorQuote2
import Derived.Test.YtdjeajhkpkphbaaDoorRefA
import Derived.Test.YtdjeajhkpkphbaaDoorRefB
import Derived.Test.YtdjeajhkpkphbaaDoorRefK
import Derived.Test.YtdjeajhkpkphbaaDoorRefQ
import Derived.Test.YtdjeajhkpkphbaaDoorTold
import Derived.Test.YtdjeajhkpkphbaaDoorBds
import Derived.Test.YtdjeajhkpkphbaaDoorLiftD
import Derived.WalkKit
import Derived.Lib.Hide
import Derived.Deep.CutRange
import Derived.Deep.DeepCutAuto
import Derived.Deep.RegionHeld3
import Derived.Deep.QuietTactic
import Derived.BigQuiet
namespace Go.Proofs.YtdjeajhkpkphbaaDoor
open Go.ChangeShapes Go.WideShapes Go.ChangeAt Go.RowKit
set_option linter.unusedVariables false
set_option maxRecDepth 100000

theorem digE_no2 {b : List Int} {m : Int} (h : digE b m = 0) : b.all okM = true ∧ okMask m = true ∧ digM b m = isM b m := by
  unfold digE at h
  cases hb : (b.all okM && okMask m)
  · rw [hb] at h; exact absurd h (by decide)
  · obtain ⟨h1, h2⟩ := Bool.and_eq_true_iff.1 hb
    exact ⟨h1, h2, by unfold digM; rw [hb, if_pos rfl]⟩
theorem sgE_row {x k r : Int} (h : okM r = true) : sgE x k r = sgE x k 0 := by
  unfold sgE okSign
  rw [h, show okM 0 = true from rfl]
theorem mkE_bd (x k n m : Int) (b : List Int) : I64 (mkE x k n m b) := by
  unfold mkE; split
  · split
    · exact sgE_bd _ _ _
    · exact digE_bd _ _
  · exact i64_small (by decide) (by decide)
theorem qcE_bd (q n m d p a c : Int) : I64 (qcE q n m d p a c) := by
  unfold qcE; split
  · split
    · split <;> exact i64_small (by decide) (by decide)
    · exact rightE_bd _ _ _ _
  · exact i64_small (by decide) (by decide)
theorem qtE_bd (d m : Int) (b : List Int) : I64 (qtE d m b) := by
  unfold qtE; split
  · exact digE_bd _ _
  · exact i64_small (by decide) (by decide)
/-- The three that came in, boxed. -/
def ThreeQ (w wx : World) (b : Array Value) (x : Array Value) (c : Array Value) : Prop :=
  Box wx w.heap.size 23 b ∧ Box wx (w.heap.size + 1) 41 x ∧ Box wx (w.heap.size + 2) 23 c
theorem ThreeQ.below {w wx wy : World} {b x c : Array Value} (h : ThreeQ w wx b x c) (hb : Below wx.heap.size wx wy) : ThreeQ w wy b x c := ⟨h.1.below hb, h.2.1.below hb, h.2.2.below hb⟩
theorem ThreeQ.fill {w wx : World} {b x c : Array Value} (h : ThreeQ w wx b x c) (u v z s t : Value) : ThreeQ w (((((wx.setCell ⟨w.heap.size + 3, 0, none⟩ u).setCell ⟨w.heap.size + 3, 1, none⟩ v).setCell ⟨w.heap.size + 3, 2, none⟩ z).setCell ⟨w.heap.size + 3, 3, none⟩ s).setCell ⟨w.heap.size + 3, 4, none⟩ t) b x c :=
  ⟨((((h.1.far (by simp) _).far (by simp) _).far (by simp) _).far (by simp) _).far (by simp) _, ((((h.2.1.far (by simp) _).far (by simp) _).far (by simp) _).far (by simp) _).far (by simp) _, ((((h.2.2.far (by simp) _).far (by simp) _).far (by simp) _).far (by simp) _).far (by simp) _⟩
theorem ThreeQ.new (w : World) (b x c : Array Value) : ThreeQ w (((w.alloc (.cells b 23)).alloc (.cells x 41)).alloc (.cells c 23)) b x c := by
  refine ⟨((Box.new _ _ _).alloc_ _).alloc_ _, ?_, ?_⟩
  · have h := (Box.new (w.alloc (.cells b 23)) 41 x).alloc_ (.cells c 23)
    have e : (w.alloc (.cells b 23)).heap.size = w.heap.size + 1 := by simp
    rw [e] at h; exact h
  · have h := Box.new ((w.alloc (.cells b 23)).alloc (.cells x 41)) 23 c
    have e : ((w.alloc (.cells b 23)).alloc (.cells x 41)).heap.size = w.heap.size + 2 := by simp
    rw [e] at h; exact h

set_option maxHeartbeats 8000000 in
theorem quoteTells_walk (w : World) (x0' k n m : Int) (x0 x1 x2 x3 x4 x5 x6 x7 : Int) (pub qn qm qd qp qa o : Int) (y0 y1 y2 y3 y4 y5 y6 y7 : Int) (i0 : I64 x0') (i1 : I64 k) (i2 : I64 n) (i3 : I64 m) (i4 : I64 pub) (i5 : I64 qn) (i6 : I64 qm) (i7 : I64 qd) (i8 : I64 qp) (i9 : I64 qa) (i10 : I64 o) (hg : Door w) :
    Calls Tryd.prog 4 #[.int .i64 x0', .int .i64 k, .int .i64 n, .int .i64 m, .agg #[.int .i64 x0, .int .i64 x1, .int .i64 x2, .int .i64 x3, .int .i64 x4, .int .i64 x5, .int .i64 x6, .int .i64 x7], .int .i64 pub, .agg #[.int .i64 qn, .int .i64 qm, .int .i64 qd, .int .i64 qp, .int .i64 qa], .int .i64 o, .agg #[.int .i64 y0, .int .i64 y1, .int .i64 y2, .int .i64 y3, .int .i64 y4, .int .i64 y5, .int .i64 y6, .int .i64 y7]] w fun e w' => e = .returned (.bool true) ∧ Below w.heap.size w w' := by
  have HG := Lib.hid hg
  have hT := ThreeQ.new w #[.int .i64 x0, .int .i64 x1, .int .i64 x2, .int .i64 x3, .int .i64 x4, .int .i64 x5, .int .i64 x6, .int .i64 x7] #[.int .i64 qn, .int .i64 qm, .int .i64 qd, .int .i64 qp, .int .i64 qa] #[.int .i64 y0, .int .i64 y1, .int .i64 y2, .int .i64 y3, .int .i64 y4, .int .i64 y5, .int .i64 y6, .int .i64 y7]
  have HW : Hid (Box ((((w.alloc (.cells #[.int .i64 x0, .int .i64 x1, .int .i64 x2, .int .i64 x3, .int .i64 x4, .int .i64 x5, .int .i64 x6, .int .i64 x7] 23)).alloc (.cells #[.int .i64 qn, .int .i64 qm, .int .i64 qd, .int .i64 qp, .int .i64 qa] 41)).alloc (.cells #[.int .i64 y0, .int .i64 y1, .int .i64 y2, .int .i64 y3, .int .i64 y4, .int .i64 y5, .int .i64 y6, .int .i64 y7] 23)).alloc (.cells #[.int .i64 0, .int .i64 0, .int .i64 0, .int .i64 0, .int .i64 0] 41)) (w.heap.size + 3) 41 #[.int .i64 0, .int .i64 0, .int .i64 0, .int .i64 0, .int .i64 0]) := Lib.hid (by
    have h := Box.new (((w.alloc (.cells #[.int .i64 x0, .int .i64 x1, .int .i64 x2, .int .i64 x3, .int .i64 x4, .int .i64 x5, .int .i64 x6, .int .i64 x7] 23)).alloc (.cells #[.int .i64 qn, .int .i64 qm, .int .i64 qd, .int .i64 qp, .int .i64 qa] 41)).alloc (.cells #[.int .i64 y0, .int .i64 y1, .int .i64 y2, .int .i64 y3, .int .i64 y4, .int .i64 y5, .int .i64 y6, .int .i64 y7] 23)) 41 #[.int .i64 0, .int .i64 0, .int .i64 0, .int .i64 0, .int .i64 0]
    have e : (((w.alloc (.cells #[.int .i64 x0, .int .i64 x1, .int .i64 x2, .int .i64 x3, .int .i64 x4, .int .i64 x5, .int .i64 x6, .int .i64 x7] 23)).alloc (.cells #[.int .i64 qn, .int .i64 qm, .int .i64 qd, .int .i64 qp, .int .i64 qa] 41)).alloc (.cells #[.int .i64 y0, .int .i64 y1, .int .i64 y2, .int .i64 y3, .int .i64 y4, .int .i64 y5, .int .i64 y6, .int .i64 y7] 23)).heap.size = w.heap.size + 3 := by simp
    rw [e] at h; exact h)
  have HT := Lib.hid (hT.below (grow_alloc (grow_refl _) (.cells #[.int .i64 0, .int .i64 0, .int .i64 0, .int .i64 0, .int .i64 0] 41)))
  obtain ⟨B, hB⟩ : ∃ B, [x0, x1, x2, x3, x4, x5, x6, x7] = B := ⟨_, rfl⟩
  obtain ⟨C, hC⟩ : ∃ C, [y0, y1, y2, y3, y4, y5, y6, y7] = C := ⟨_, rfl⟩
  have HB := Lib.hid hB
  have HC := Lib.hid hC
  obtain ⟨⟨v1, v2, v3, v4, v5⟩, hv⟩ : ∃ v, mkV x0' k n m B = v := ⟨_, rfl⟩
  have HV := Lib.hid hv
  obtain ⟨E, hE⟩ : ∃ E, mkE x0' k n m B = E := ⟨_, rfl⟩
  have iE : I64 E := by rw [← hE]; exact mkE_bd _ _ _ _ _
  have HE := Lib.hid hE
  have HV0 : Hid (E ≠ 0 → v1 = 0 ∧ v2 = 0 ∧ v3 = 0 ∧ v4 = 0 ∧ v5 = 0) := Lib.hid (fun h => by
    have h2 := hv
    unfold mkV at h2
    rw [if_neg (by rw [hE]; exact h)] at h2
    simp only [Prod.mk.injEq] at h2
    exact ⟨h2.1.symm, h2.2.1.symm, h2.2.2.1.symm, h2.2.2.2.1.symm, h2.2.2.2.2.symm⟩)
  clear hg hT hB hC hv hE
  go_enter Tryd.func4, Tryd.ntmps4
  go_upto_if 32 with (go_at_call 18; refine (rIs_any _ _).mono ?_; rintro e w' ⟨rfl, rfl⟩)
  go_cut [19, 20, 22] (fun e _ _ wx => e = .int .i64 E ∧ Below w.heap.size w wx ∧ Hid (ThreeQ w wx #[.int .i64 x0, .int .i64 x1, .int .i64 x2, .int .i64 x3, .int .i64 x4, .int .i64 x5, .int .i64 x6, .int .i64 x7] #[.int .i64 qn, .int .i64 qm, .int .i64 qd, .int .i64 qp, .int .i64 qa] #[.int .i64 y0, .int .i64 y1, .int .i64 y2, .int .i64 y3, .int .i64 y4, .int .i64 y5, .int .i64 y6, .int .i64 y7]) ∧ Hid (Box wx (w.heap.size + 3) 41 #[.int .i64 v1, .int .i64 v2, .int .i64 v3, .int .i64 v4, .int .i64 v5]))
  case first =>
    cases hn : okM n
    · have HE1 : Hid (E = 1) := Lib.hid (by rw [← HE.out]; unfold mkE; rw [hn]; rfl)
      have h0 := HV0.out (by rw [HE1.out]; decide)
      obtain ⟨rfl, rfl, rfl, rfl, rfl⟩ := h0
      go_wp2_with fail
      go_meet
      exact ⟨by rw [HE1.out], (by repeat (first | (with_reducible exact grow_refl _) | (with_reducible assumption) | (with_reducible refine grow_alloc ?_ _) | (with_reducible refine grow_set ?_ (by first | exact Nat.le_refl _ | (simp; done) | (simp; omega) | omega) _) | (with_reducible refine grow_drewN ?_ _) | (with_reducible refine grow_drew ?_) | (with_reducible refine grow_step ?_ (by assumption)) | (with_reducible refine grow_base ?_ (by assumption)))), HT, HW⟩
    · have cB := HT.out.1.cell
      have lB := HT.out.1.lt
      rcases digE_01 B m with hd | hd
      · obtain ⟨hok, hmk, hdm⟩ := digE_no2 hd
        obtain ⟨m1, m2⟩ := okMask_yes hmk
        have hrow : ([n, m, isM B m]).all okM = true := by
          simp only [List.all_cons, List.all_nil, Bool.and_true, hn, okM_of_mask hmk]
          unfold isM; rw [rowM_ok]; rfl
        have hr := rowM_ok [n, m, isM B m]
        have HD := Lib.hid hd
        have HOK := Lib.hid hok
        have hE1 : E = sgE x0' k (rowM [n, m, isM B m]) := by rw [← HE.out]; unfold mkE; rw [hn, if_pos rfl, if_pos hd, hdm]
        rcases sg_ways x0' k 0 with ⟨g1, g2, g3, g4, g5, g6⟩ | ⟨g1, g2, g3⟩
        · have hE0 : E = 0 := by rw [hE1, sgE_row hr, g1]
          have HVV : Hid (v1 = n ∧ v2 = m ∧ v3 = isM B m ∧ v4 = pwI 64 k ∧ v5 = sealA x0' k (rowM [n, m, isM B m])) := Lib.hid (by
            have h2 := HV.out
            unfold mkV at h2
            rw [if_pos (HE.out.trans hE0), hdm] at h2
            simp only [Prod.mk.injEq] at h2
            obtain ⟨a1, a2, a3, a4, a5⟩ := h2
            have hs : okSign x0' k (rowM [n, m, isM B m]) = true := by unfold okSign; rw [g4, g5, hr]; rfl
            refine ⟨a1.symm, a2.symm, a3.symm, ?_, ?_⟩
            · rw [← a4]; unfold sgP; rw [hs]; rfl
            · rw [← a5]; unfold sgA; rw [hs]; rfl)
          have H1 := Lib.hid g1
          have HE0 := Lib.hid hE0
          have HR := Lib.hid hrow
          obtain ⟨D, hD⟩ : ∃ D, isM B m = D := ⟨_, rfl⟩
          rw [hD] at HR HVV hr
          have HDD := Lib.hid hD
          clear hd hok hdm hmk hE1 g1 g2 g3 hE0 hrow hD
          go_wp2_with fail
          refine (rDigested_any x0 x1 x2 x3 x4 x5 x6 x7 m _).mono ?_
          rintro e w2 ⟨rfl, hb2⟩
          rw [HB.out, HD.out]
          have HT2 := Lib.hid (HT.out.below hb2)
          have HW2 := Lib.hid (HW.out.below hb2)
          clear cB lB
          have cB := HT2.out.1.cell
          have lB := HT2.out.1.lt
          go_wp2_with (go_at_call 20; refine (rSigned_any _ _ _ _).mono ?_; rintro e w' ⟨rfl, rfl⟩; rw [H1.out])
          refine (rDigest_any x0 x1 x2 x3 x4 x5 x6 x7 m _ m1 m2 (by rw [HB.out]; exact HOK.out)).mono ?_
          rintro e w3 ⟨rfl, hb3⟩
          rw [HB.out, HDD.out]
          have HT3 := Lib.hid (HT2.out.below hb3)
          have HW3 := Lib.hid (HW2.out.below hb3)
          clear cB lB
          go_wp2_with fail
          refine (rAll_any _ 3 [n, m, D] _ (IntsAt.new_ _ _ _ _) HR.out (by simp)).mono ?_
          rintro e w4 ⟨rfl, rfl⟩
          obtain ⟨R, hR⟩ : ∃ R, rowM [n, m, D] = R := ⟨_, rfl⟩
          rw [hR] at hr HVV ⊢
          clear hR
          go_wp2_with fail
          refine (rSign_any x0' k R _ g4 g5 hr).mono ?_
          rintro e w5 ⟨rfl, hb5⟩
          have HT5 := Lib.hid ((HT3.out.below (grow_alloc (grow_refl _) _)).below hb5)
          have HW5 := Lib.hid ((HW3.out.alloc_ _).below hb5)
          have cW := HW5.out.cell
          have fW := HW5.out.frozen
          have lW := HW5.out.lt
          go_wp2_with fail
          go_meet
          refine ⟨by rw [HE0.out], (by repeat (first | (with_reducible exact grow_refl _) | (with_reducible assumption) | (with_reducible refine grow_alloc ?_ _) | (with_reducible refine grow_set ?_ (by first | exact Nat.le_refl _ | (simp; done) | (simp; omega) | omega) _) | (with_reducible refine grow_drewN ?_ _) | (with_reducible refine grow_drew ?_) | (with_reducible refine grow_step ?_ (by assumption)) | (with_reducible refine grow_base ?_ (by assumption)))), Lib.hid (HT5.out.fill _ _ _ _ _), Lib.hid ?_⟩
          rw [HVV.out.1, HVV.out.2.1, HVV.out.2.2.1, HVV.out.2.2.2.1, HVV.out.2.2.2.2]
          exact HW5.out.fill5 _ _ _ _ _
        · have HE1 : Hid (E = 1) := Lib.hid (by rw [hE1, sgE_row hr, g1])
          have h0 := HV0.out (by rw [HE1.out]; decide)
          obtain ⟨rfl, rfl, rfl, rfl, rfl⟩ := h0
          have H1 := Lib.hid g1
          clear hd hok hdm hmk hE1 g1 g2 g3 hrow hr
          go_wp2_with fail
          refine (rDigested_any x0 x1 x2 x3 x4 x5 x6 x7 m _).mono ?_
          rintro e w2 ⟨rfl, hb2⟩
          rw [HB.out, HD.out]
          have HT2 := Lib.hid (HT.out.below hb2)
          have HW2 := Lib.hid (HW.out.below hb2)
          clear cB lB
          go_wp2_with (go_at_call 20; refine (rSigned_any _ _ _ _).mono ?_; rintro e w' ⟨rfl, rfl⟩; rw [H1.out])
          go_meet
          exact ⟨by rw [HE1.out], (by repeat (first | (with_reducible exact grow_refl _) | (with_reducible assumption) | (with_reducible refine grow_alloc ?_ _) | (with_reducible refine grow_set ?_ (by first | exact Nat.le_refl _ | (simp; done) | (simp; omega) | omega) _) | (with_reducible refine grow_drewN ?_ _) | (with_reducible refine grow_drew ?_) | (with_reducible refine grow_step ?_ (by assumption)) | (with_reducible refine grow_base ?_ (by assumption)))), HT2, HW2⟩
      · have HE1 : Hid (E = 1) := Lib.hid (by rw [← HE.out]; unfold mkE; rw [hn, if_pos rfl, if_neg (by rw [hd]; decide), hd])
        have h0 := HV0.out (by rw [HE1.out]; decide)
        obtain ⟨rfl, rfl, rfl, rfl, rfl⟩ := h0
        have HD := Lib.hid hd
        clear hd
        go_wp2_with fail
        refine (rDigested_any x0 x1 x2 x3 x4 x5 x6 x7 m _).mono ?_
        rintro e w2 ⟨rfl, hb2⟩
        rw [HB.out, HD.out]
        have HT2 := Lib.hid (HT.out.below hb2)
        have HW2 := Lib.hid (HW.out.below hb2)
        clear cB lB
        go_wp2_with fail
        go_meet
        exact ⟨by rw [HE1.out], (by repeat (first | (with_reducible exact grow_refl _) | (with_reducible assumption) | (with_reducible refine grow_alloc ?_ _) | (with_reducible refine grow_set ?_ (by first | exact Nat.le_refl _ | (simp; done) | (simp; omega) | omega) _) | (with_reducible refine grow_drewN ?_ _) | (with_reducible refine grow_drew ?_) | (with_reducible refine grow_step ?_ (by assumption)) | (with_reducible refine grow_base ?_ (by assumption)))), HT2, HW2⟩
  case rest =>
  obtain ⟨rfl, hb, HT1, HW1⟩ := hcut
  have cB := HT1.out.1.cell
  have lB := HT1.out.1.lt
  go_wp2_with fail
  clear cB
  refine (quoteMake_any x0' k n m x0 x1 x2 x3 x4 x5 x6 x7 _).mono ?_
  rintro e w2 ⟨he, hb2⟩
  rw [HB.out] at he
  obtain rfl := he _ HV.out.symm
  clear he
  rw [HE.out]
  simp only
  have HT2 := Lib.hid (HT1.out.below hb2)
  have HW2 := Lib.hid (HW1.out.below hb2)
  have lW2 := HW2.out.lt
  go_wp2_with fail
  have BZ := Box.new w2 41 #[.int .i64 v1, .int .i64 v2, .int .i64 v3, .int .i64 v4, .int .i64 v5]
  refine (error_any _ _ _ (HG.out.below (by repeat (first | (with_reducible exact grow_refl _) | (with_reducible assumption) | (with_reducible refine grow_alloc ?_ _) | (with_reducible refine grow_set ?_ (by first | exact Nat.le_refl _ | (simp; done) | (simp; omega) | omega) _) | (with_reducible refine grow_drewN ?_ _) | (with_reducible refine grow_drew ?_) | (with_reducible refine grow_step ?_ (by assumption)) | (with_reducible refine grow_base ?_ (by assumption))))) iE).mono ?_
  rintro e w3 ⟨rfl, hb3⟩
  have BZ3 := BZ.below hb3
  have BW3 := (HW2.out.alloc_ _).below hb3
  have HT3 := Lib.hid ((HT2.out.below (grow_alloc (grow_refl _) _)).below hb3)
  have cZ := BZ3.cell
  have cW := BW3.cell
  have lZ := BZ3.lt
  have lW := BW3.lt
  go_upto_region 13 with fail
  clear cZ cW
  obtain ⟨F, hF⟩ : ∃ F, qcE pub qn qm qd qp qa o = F := ⟨_, rfl⟩
  have iF : I64 F := by rw [← hF]; exact qcE_bd _ _ _ _ _ _ _
  have HF := Lib.hid hF
  clear hF
  have hbW : Below w.heap.size w w3 := (by repeat (first | (with_reducible exact grow_refl _) | (with_reducible assumption) | (with_reducible refine grow_alloc ?_ _) | (with_reducible refine grow_set ?_ (by first | exact Nat.le_refl _ | (simp; done) | (simp; omega) | omega) _) | (with_reducible refine grow_drewN ?_ _) | (with_reducible refine grow_drew ?_) | (with_reducible refine grow_step ?_ (by assumption)) | (with_reducible refine grow_base ?_ (by assumption))))
  have q1 := HT3.out.2.1
  have q2 := HT3.out.2.2
  go_region_held3 (fun w' => (∀ i, w'.cell? ⟨w.heap.size + 1, i, none⟩ = (#[.int .i64 qn, .int .i64 qm, .int .i64 qd, .int .i64 qp, .int .i64 qa] : Array Value)[i]?) ∧ Box w' (w.heap.size + 1) 41 #[.int .i64 qn, .int .i64 qm, .int .i64 qd, .int .i64 qp, .int .i64 qa] ∧ Box w' (w.heap.size + 2) 23 #[.int .i64 y0, .int .i64 y1, .int .i64 y2, .int .i64 y3, .int .i64 y4, .int .i64 y5, .int .i64 y6, .int .i64 y7] ∧ Below w.heap.size w w')
    (first
      | exact ⟨F1.cell, F1, F2, F3⟩
      | exact ⟨q1.cell, q1.drew_, q2.drew_, grow_drew hbW⟩
      | (go_keep; done))
    (first
      | (go_at_call 25; go_split_ands; have p1 : Box _ (w.heap.size + 1) 41 #[.int .i64 qn, .int .i64 qm, .int .i64 qd, .int .i64 qp, .int .i64 qa] := (by assumption); have p2 : Box _ (w.heap.size + 2) 23 #[.int .i64 y0, .int .i64 y1, .int .i64 y2, .int .i64 y3, .int .i64 y4, .int .i64 y5, .int .i64 y6, .int .i64 y7] := (by assumption); have p3 : Below w.heap.size w _ := (by assumption); refine (quoteCheck_any _ _ _ _ _ _ _ _).mono ?_; rintro e w1 ⟨rfl, hb1⟩; rw [HF.out]; have F1 := p1.below hb1; have F2 := p2.below hb1; have F3 := grow_step p3 hb1; clear p1 p2 p3)
      | (go_at_call 26; go_split_ands; have p1 : Box _ (w.heap.size + 1) 41 #[.int .i64 qn, .int .i64 qm, .int .i64 qd, .int .i64 qp, .int .i64 qa] := (by assumption); have p2 : Box _ (w.heap.size + 2) 23 #[.int .i64 y0, .int .i64 y1, .int .i64 y2, .int .i64 y3, .int .i64 y4, .int .i64 y5, .int .i64 y6, .int .i64 y7] := (by assumption); have p3 : Below w.heap.size w _ := (by assumption); refine (rQuote_any _ _ _ _ _ _ _ _).mono ?_; rintro e w1 ⟨rfl, hb1⟩; rw [HF.out]; have F1 := p1.below hb1; have F2 := p2.below hb1; have F3 := grow_step p3 hb1; clear p1 p2 p3)
      | (go_at_call 17; go_split_ands; have p1 : Box _ (w.heap.size + 1) 41 #[.int .i64 qn, .int .i64 qm, .int .i64 qd, .int .i64 qp, .int .i64 qa] := (by assumption); have p2 : Box _ (w.heap.size + 2) 23 #[.int .i64 y0, .int .i64 y1, .int .i64 y2, .int .i64 y3, .int .i64 y4, .int .i64 y5, .int .i64 y6, .int .i64 y7] := (by assumption); have p3 : Below w.heap.size w _ := (by assumption); refine (error_any F F _ (HG.out.below p3) iF).mono ?_; rintro e w1 ⟨rfl, hb1⟩; have F1 := p1.below hb1; have F2 := p2.below hb1; have F3 := grow_step p3 hb1; clear p1 p2 p3))
  have FQ := Lib.hid F1
  have FC := Lib.hid F2
  have FB : Below w.heap.size w _ := F3
  have cQ := F1.cell
  have lQ := F1.lt
  go_upto_if 87 with (go_at_call 18; refine (rIs_any _ _).mono ?_; rintro e w' ⟨rfl, rfl⟩)
  clear cQ
  obtain ⟨E4, hE4⟩ : ∃ E4, qtE qd qm C = E4 := ⟨_, rfl⟩
  have iE4 : I64 E4 := by rw [← hE4]; exact qtE_bd _ _ _
  have HE4 := Lib.hid hE4
  clear hE4
  go_cut [19, 20] (fun e _ wx => e = .int .i64 E4 ∧ Below w.heap.size w wx ∧ Hid (Box wx (w.heap.size + 1) 41 #[.int .i64 qn, .int .i64 qm, .int .i64 qd, .int .i64 qp, .int .i64 qa]) ∧ Hid (Box wx (w.heap.size + 2) 23 #[.int .i64 y0, .int .i64 y1, .int .i64 y2, .int .i64 y3, .int .i64 y4, .int .i64 y5, .int .i64 y6, .int .i64 y7]))
  case first =>
    cases hd : okM qd
    · have HE5 : Hid (E4 = 1) := Lib.hid (by rw [← HE4.out]; unfold qtE; rw [hd]; rfl)
      go_wp2_with fail
      go_meet
      exact ⟨by rw [HE5.out], F3, FQ, FC⟩
    · have HE5 : Hid (digE C qm = E4) := Lib.hid (by rw [← HE4.out]; unfold qtE; rw [hd]; rfl)
      have cQ := FQ.out.cell
      have cC := FC.out.cell
      have lC := FC.out.lt
      go_wp2_with fail
      clear cQ cC
      refine (rDigested_any y0 y1 y2 y3 y4 y5 y6 y7 qm _).mono ?_
      rintro e w5 ⟨rfl, hb5⟩
      rw [HC.out, HE5.out]
      have FQ5 := Lib.hid (FQ.out.below hb5)
      have FC5 := Lib.hid (FC.out.below hb5)
      go_wp2_with fail
      go_meet
      exact ⟨rfl, grow_step F3 hb5, FQ5, FC5⟩
  case rest =>
  obtain ⟨rfl, hb6, FQ6, FC6⟩ := hcut
  go_upto_region 18 with fail
  go_cut [27] (fun t wx => t = .bool (qtB qd qm C) ∧ Below w.heap.size w wx ∧ Hid (Box wx (w.heap.size + 1) 41 #[.int .i64 qn, .int .i64 qm, .int .i64 qd, .int .i64 qp, .int .i64 qa]) ∧ Hid (Box wx (w.heap.size + 2) 23 #[.int .i64 y0, .int .i64 y1, .int .i64 y2, .int .i64 y3, .int .i64 y4, .int .i64 y5, .int .i64 y6, .int .i64 y7]))
  case first =>
    by_cases h0 : E4 = 0
    · have t : (E4 == 0) = true := by simp [h0]
      have hd : okM qd = true ∧ digE C qm = 0 := by
        have h := HE4.out.trans h0
        unfold qtE at h
        cases hd : okM qd
        · rw [hd, if_neg (by decide)] at h; exact absurd h (by decide)
        · rw [hd, if_pos rfl] at h; exact ⟨rfl, h⟩
      obtain ⟨hok, hmk, hdm⟩ := digE_no2 hd.2
      obtain ⟨m1, m2⟩ := okMask_yes hmk
      have HQ : Hid (qtB qd qm C = (isM C qm == qd)) := Lib.hid (by unfold qtB; rw [hd.1, hd.2, hdm]; rfl)
      have HOK : Hid (([y0, y1, y2, y3, y4, y5, y6, y7]).all okM = true) := Lib.hid (by rw [HC.out]; exact hok)
      clear h0 hd hok hmk hdm
      have q1 := FQ6.out
      have q2 := FC6.out
      go_region_held3 (fun w' => (∀ i, w'.cell? ⟨w.heap.size + 1, i, none⟩ = (#[.int .i64 qn, .int .i64 qm, .int .i64 qd, .int .i64 qp, .int .i64 qa] : Array Value)[i]?) ∧ (∀ i, w'.cell? ⟨w.heap.size + 2, i, none⟩ = (#[.int .i64 y0, .int .i64 y1, .int .i64 y2, .int .i64 y3, .int .i64 y4, .int .i64 y5, .int .i64 y6, .int .i64 y7] : Array Value)[i]?) ∧ Box w' (w.heap.size + 1) 41 #[.int .i64 qn, .int .i64 qm, .int .i64 qd, .int .i64 qp, .int .i64 qa] ∧ Box w' (w.heap.size + 2) 23 #[.int .i64 y0, .int .i64 y1, .int .i64 y2, .int .i64 y3, .int .i64 y4, .int .i64 y5, .int .i64 y6, .int .i64 y7] ∧ Below w.heap.size w w')
        (first
          | exact ⟨G1.cell, G2.cell, G1, G2, G3⟩
          | exact ⟨q1.cell, q2.cell, q1.drew_, q2.drew_, grow_drew hb6⟩
          | (go_keep; done))
        (first
          | (go_at_call 21; go_split_ands; have p1 : Box _ (w.heap.size + 1) 41 #[.int .i64 qn, .int .i64 qm, .int .i64 qd, .int .i64 qp, .int .i64 qa] := (by assumption); have p2 : Box _ (w.heap.size + 2) 23 #[.int .i64 y0, .int .i64 y1, .int .i64 y2, .int .i64 y3, .int .i64 y4, .int .i64 y5, .int .i64 y6, .int .i64 y7] := (by assumption); have p3 : Below w.heap.size w _ := (by assumption); refine (rDigest_any y0 y1 y2 y3 y4 y5 y6 y7 qm _ m1 m2 HOK.out).mono ?_; rintro e w1 ⟨rfl, hb1⟩; have G1 := p1.below hb1; have G2 := p2.below hb1; have G3 := grow_step p3 hb1; clear p1 p2 p3))
      go_wp2_with fail
      go_meet
      exact ⟨by rw [HQ.out, HC.out], G3, Lib.hid G1, Lib.hid G2⟩
    · have t : (E4 == 0) = false := by simpa using h0
      have HQ : Hid (qtB qd qm C = false) := Lib.hid (by
        have h := HE4.out
        unfold qtE at h
        unfold qtB
        cases hd : okM qd
        · rfl
        · rw [hd, if_pos rfl] at h; simp [h, h0])
      clear h0
      go_quiet (fail)
      go_wp2_with fail
      go_meet
      exact ⟨by rw [HQ.out], grow_drewN hb6 _, Lib.hid (FQ6.out.below (grow_drewN (grow_refl _) _)), Lib.hid (FC6.out.below (grow_drewN (grow_refl _) _))⟩
  case rest =>
  obtain ⟨rfl, hb7, FQ7, FC7⟩ := hcut
  have cQ := FQ7.out.cell
  have lQ7 := FQ7.out.lt
  have cC := FC7.out.cell
  have lC7 := FC7.out.lt
  go_wp2_with fail
  clear cQ cC
  refine (quoteTells_any qn qm qd qp qa y0 y1 y2 y3 y4 y5 y6 y7 _).mono ?_
  rintro e w8 ⟨rfl, hb8⟩
  rw [HC.out, HE4.out]
  go_wp2_with fail
  refine (error_any _ _ _ (HG.out.below (by repeat (first | (with_reducible exact grow_refl _) | (with_reducible assumption) | (with_reducible refine grow_alloc ?_ _) | (with_reducible refine grow_set ?_ (by first | exact Nat.le_refl _ | (simp; done) | (simp; omega) | omega) _) | (with_reducible refine grow_drewN ?_ _) | (with_reducible refine grow_drew ?_) | (with_reducible refine grow_step ?_ (by assumption)) | (with_reducible refine grow_base ?_ (by assumption))))) iE4).mono ?_
  rintro e w9 ⟨rfl, hb9⟩
  go_wp2_with fail
  go_ret
  exact ⟨rfl, (by repeat (first | (with_reducible exact grow_refl _) | (with_reducible assumption) | (with_reducible refine grow_alloc ?_ _) | (with_reducible refine grow_set ?_ (by first | exact Nat.le_refl _ | (simp; done) | (simp; omega) | omega) _) | (with_reducible refine grow_drewN ?_ _) | (with_reducible refine grow_drew ?_) | (with_reducible refine grow_step ?_ (by assumption)) | (with_reducible refine grow_base ?_ (by assumption))))⟩

set_option maxRecDepth 100000 in
theorem quoteTells_walks (H : Type) (enc : TypeId × Value → H) : WalksD enc Tryd.prog Door 4 Tryd.f4 := by
  intro W base args ds p hval hA hlt hsz hsh hdoor
  have hsz0 := hsz
  rw [Tryd.params4] at hA hval
  obtain ⟨v0, vs0, d0, ds0, p0, q0, hargs, rfl, rfl, h0, r0⟩ := trodAll_cons hA
  obtain ⟨v1, vs1, d1, ds1, p1, q1, rfl, rfl, rfl, h1, r1⟩ := trodAll_cons r0
  obtain ⟨v2, vs2, d2, ds2, p2, q2, rfl, rfl, rfl, h2, r2⟩ := trodAll_cons r1
  obtain ⟨v3, vs3, d3, ds3, p3, q3, rfl, rfl, rfl, h3, r3⟩ := trodAll_cons r2
  obtain ⟨v4, vs4, d4, ds4, p4, q4, rfl, rfl, rfl, h4, r4⟩ := trodAll_cons r3
  obtain ⟨v5, vs5, d5, ds5, p5, q5, rfl, rfl, rfl, h5, r5⟩ := trodAll_cons r4
  obtain ⟨v6, vs6, d6, ds6, p6, q6, rfl, rfl, rfl, h6, r6⟩ := trodAll_cons r5
  obtain ⟨v7, vs7, d7, ds7, p7, q7, rfl, rfl, rfl, h7, r7⟩ := trodAll_cons r6
  obtain ⟨v8, vs8, d8, ds8, p8, q8, rfl, rfl, rfl, h8, r8⟩ := trodAll_cons r7
  obtain ⟨rfl, rfl, rfl⟩ := trodAll_nil r8
  obtain rfl : args = #[v0, v1, v2, v3, v4, v5, v6, v7, v8] := by cases args; simp_all
  obtain ⟨a0, rfl, w0⟩ := op_int (hval 0 3 v0 rfl rfl) h0
  obtain ⟨a1, rfl, w1⟩ := op_int (hval 1 3 v1 rfl rfl) h1
  obtain ⟨a2, rfl, w2⟩ := op_int (hval 2 3 v2 rfl rfl) h2
  obtain ⟨a3, rfl, w3⟩ := op_int (hval 3 3 v3 rfl rfl) h3
  obtain ⟨x40, x41, x42, x43, x44, x45, x46, x47, rfl, i40, i41, i42, i43, i44, i45, i46, i47⟩ := op_bank (hval 4 23 v4 rfl rfl)
  obtain ⟨a5, rfl, w5⟩ := op_int (hval 5 3 v5 rfl rfl) h5
  obtain ⟨s60, s61, s62, s63, s64, rfl, q60, q61, q62, q63, q64⟩ := op_quote (hval 6 41 v6 rfl rfl)
  obtain ⟨a7, rfl, w7⟩ := op_int (hval 7 3 v7 rfl rfl) h7
  obtain ⟨x80, x81, x82, x83, x84, x85, x86, x87, rfl, i80, i81, i82, i83, i84, i85, i86, i87⟩ := op_bank (hval 8 23 v8 rfl rfl)
  exact quoteTells_walk W a0 a1 a2 a3 x40 x41 x42 x43 x44 x45 x46 x47 a5 s60 s61 s62 s63 s64 a7 x80 x81 x82 x83 x84 x85 x86 x87 w0 w1 w2 w3 w5 q60 q61 q62 q63 q64 w7 hdoor

set_option maxRecDepth 100000 in
theorem quoteTells_lifted (os : Os) (started : os.Started) (H : Type) (enc : TypeId × Value → H) :
    ReturnsInHanded {} Tryd.checked os 4 .any (fun w args => (Rows.quoteTellsSpec.pre enc Tryd.checked.prog Tryd.f4 [] false w args ∧ laidMetH Tryd.checked.prog LaidD w) ∧ sizedMet enc Tryd.checked.prog Tryd.f4 (OpenSpec.ofChange Rows.quoteTellsSpec) false w args) (Rows.quoteTellsSpec.post enc Tryd.checked.prog Tryd.f4 false true false false) :=
  returns_of_walkD (C := Tryd.checked) (s := Rows.quoteTellsSpec) (L := LaidD) (D := Door) own started (by kernel_rfl) Tryd.func4
    (ChangeSpec.witness_at (enc := enc) (C := Tryd.checked) (os := os) (X := fun w _ => laidMetH Tryd.prog LaidD w) false (laidWorld os) #[.int .i64 0, .int .i64 0, .int .i64 0, .int .i64 0, .agg #[.int .i64 0, .int .i64 0, .int .i64 0, .int .i64 0, .int .i64 0, .int .i64 0, .int .i64 0, .int .i64 0], .int .i64 0, .agg #[.int .i64 0, .int .i64 0, .int .i64 0, .int .i64 0, .int .i64 0], .int .i64 0, .agg #[.int .i64 0, .int .i64 0, .int .i64 0, .int .i64 0, .int .i64 0, .int .i64 0, .int .i64 0, .int .i64 0]] 8 rfl (by kernel_rfl) (by kernel_rfl) (by kernel_rfl) (by kernel_rfl) (by kernel_rfl) (laidWorld_met os _))
    (fun W h => door_of_laid h) laidOut (by kernel_rfl) rfl Tryd.underlying4 rfl (fun ds h => by match ds, h with | [_, _, _, _, _, _, _, _, _], _ => rfl) (quoteTells_walks H enc)

theorem quoteTells_bare : Rows.QuoteTellsSaid :=
  OpenClaim.holds_of_wide 4 Tryd.f4 rfl rfl rfl rfl rfl rfl rfl ⟨rfl, rfl, rfl, rfl, rfl⟩ rfl rfl rfl rfl rfl (by kernel_rfl) Tryd.func4 (by kernel_rfl)
    (of_decide_eq_true (by kernel_rfl)) (by unfold Func.isWrapper; rw [if_neg (of_decide_eq_false (by kernel_rfl))]; exact ⟨rfl, rfl⟩)
    (fun os started H enc _ => quoteTells_lifted os started H enc)

theorem quoteTells_holds : Rows.QuoteTellsCardSaid :=
  Claim7.holds_tied_plain_at .later [] [.handle] true Rows.quoteTellsCard.stood.harness true
    quoteTells_bare (fun _ h => by cases h) (by kernel_rfl) (fun _ h => by cases h) quoteTells_row_tie rfl ⟨rfl, rfl⟩ (by kernel_rfl) rfl
    (fun f fn hf hfn => by
      obtain rfl : f = 4 := Option.some.inj ((show Tryd.prog.funcNamed "bootstair/stairlaw1.QuoteTells" = some 4 by kernel_rfl).symm.trans hf) |>.symm
      obtain rfl : fn = Tryd.f4 := (Option.some.inj (Tryd.func4.symm.trans hfn)).symm
      exact ⟨by kernel_rfl, fun j t ht => by
        have hm : t ∈ Tryd.f4.params.toList := by simpa using Array.mem_of_getElem? ht
        have hall : (Tryd.f4.params.toList.all fun u => !Tryd.prog.wantsStandIn u) = true := by kernel_rfl
        exact (show Tryd.prog.wantsStandIn t = false by simpa using List.all_eq_true.1 hall t hm)⟩)
    (by kernel_rfl)

end Go.Proofs.YtdjeajhkpkphbaaDoor
