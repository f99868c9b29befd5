/- BootMeasures: nothing starts that was not measured. The listed package variables hold what the program's text lays. -/
import Derived.Test.YtnocigkfhdnhfaaDoorRows
import Derived.Test.YtnocigkfhdnhfaaDoorOpen
import Derived.Test.YtnocigkfhdnhfaaDoorOpI
import Derived.Test.YtnocigkfhdnhfaaDoorOpE
import Derived.Test.YtnocigkfhdnhfaaDoorKey
import Derived.Test.YtnocigkfhdnhfaaDoorSign
import Derived.Test.YtnocigkfhdnhfaaDoorSign2
import Derived.Test.YtnocigkfhdnhfaaDoorEq8
import Derived.Test.YtnocigkfhdnhfaaDoorEvent2
import Derived.Test.YtnocigkfhdnhfaaDoorEvSame
import Derived.Test.YtnocigkfhdnhfaaDoorBootP
import Derived.Test.YtnocigkfhdnhfaaDoorBoot
import Derived.Test.YtnocigkfhdnhfaaDoorBootM
import Derived.Test.YtnocigkfhdnhfaaDoorTold
import Derived.Test.YtnocigkfhdnhfaaDoorBds
import Derived.Test.YtnocigkfhdnhfaaDoorLiftD
import Derived.Test.YtnocigkfhdnhfaaDoorLiftT
import Derived.WalkKit
import Derived.WalkSpells
import Derived.Lib.Hide
import Derived.Deep.DeepCutAuto
import Derived.Deep.CutBlock
import Derived.Deep.CutRange
import Derived.Deep.QuietTactic
import Derived.BigQuiet
import Derived.RegionTactic
import Derived.BigRegion
namespace Go.Proofs.YtnocigkfhdnhfaaDoor
open Go.ChangeShapes Go.WideShapes Go.ChangeAt Go.RowKit
set_option linter.unusedVariables false
set_option maxRecDepth 100000

theorem SgnsAt.take_ {w : World} {A : Option Addr} {ss : List Sgn} (h : SgnsAt w A ss) (k : Nat) : SgnsAt w A (ss.take k) := fun i hi => by
  rw [List.length_take] at hi
  obtain ⟨b, off, e, hl, hc⟩ := h i (by omega)
  exact ⟨b, off, e, hl, fun j hj => by rw [take_at (by omega)]; exact hc j hj⟩

set_option maxHeartbeats 4000000 in
theorem bootMeasures_walk (w : World) (p : Int) (A : Option Addr) (ss : List Sgn) (c : Nat) (cut : Int) (ip : I64 p) (hS : SgnsAt w A ss) (hl : ss.length * 56 ≤ 140737488351232) (hc : ss.length ≤ c)
    (hss : ∀ i, i < ss.length → (ss.getD i noSgn).1.size ≤ 140737488351232 ∧ (ss.getD i noSgn).2.2.1.size ≤ 140737488351232 ∧ I64 (ss.getD i noSgn).2.1 ∧ I64 (ss.getD i noSgn).2.2.2.1 ∧ I64 (ss.getD i noSgn).2.2.2.2) (ic : I64 cut) (ht : TabT w) :
    Calls Tryd.prog 13 #[.int .i64 p, .slice A ss.length c, .int .i64 cut] w fun e w' => e = .returned (.bool true) ∧ Below w.heap.size w w' := by
  have en := fun k w => err_neq k w
  have ee := fun k w => err_eql k w
  have gn := fun o k w => err_guard_neq o k w
  have ge := fun o k w => err_guard_eql o k w
  have HT := Lib.hid ht
  have HS := Lib.hid hS
  have HZ := Lib.hid (fun i hi => (⟨(hss i hi).1, (hss i hi).2.1⟩ : (ss.getD i noSgn).1.size ≤ 140737488351232 ∧ (ss.getD i noSgn).2.2.1.size ≤ 140737488351232))
  have H5 : Hid (okSecret 5 = true) := Lib.hid (by decide)
  have H7 : Hid (okSecret 7 = true) := Lib.hid (by decide)
  have hos : imgE ⟨#[111, 115]⟩ 1 ⟨#[]⟩ = 0 := by decide
  have HOS := Lib.hid hos
  clear ht hS hss hos
  go_enter Tryd.func13, Tryd.ntmps13
  go_wp2_with fail
  refine (bootRun_both p A ss c _ HS.out (by omega) HZ.out HT.out).mono ?_
  rintro e w1 ⟨n, A1, c1, es, y0, y1, y2, y3, y4, y5, y6, y7, rfl, hv1, hI1, hb1⟩
  obtain ⟨E, hE⟩ : ∃ E, bootE p ss = E := ⟨_, rfl⟩
  rw [hE] at hI1 ⊢
  have HI1 := Lib.hid hI1
  have HE := Lib.hid hE
  have HB1 := Lib.hid (Box.new w1 78 #[.int .i64 y0, .int .i64 y1, .int .i64 y2, .int .i64 y3, .int .i64 y4, .int .i64 y5, .int .i64 y6, .int .i64 y7])
  have HV1 := Lib.hid (hv1.below (grow_alloc (grow_refl _) (.cells #[.int .i64 y0, .int .i64 y1, .int .i64 y2, .int .i64 y3, .int .i64 y4, .int .i64 y5, .int .i64 y6, .int .i64 y7] 78)))
  clear hv1 hI1 hE
  go_wp2_with fail
  refine (signMake_yes 5 7 ⟨#[111, 115]⟩ 1 ⟨#[]⟩ _ _ (by decide) (by decide) HOS.out rfl H5.out H7.out (HT.out.below (by repeat (first | (with_reducible exact grow_refl _) | (with_reducible assumption) | (with_reducible refine grow_alloc ?_ _) | (with_reducible refine grow_set ?_ (by first | exact Nat.le_refl _ | (simp; done) | (simp; omega) | omega) _) | (with_reducible refine grow_drewN ?_ _) | (with_reducible refine grow_drew ?_) | (with_reducible refine grow_step ?_ (by assumption)) | (with_reducible refine grow_base ?_ (by assumption)))))).mono ?_
  rintro e w2 ⟨rfl, hb2⟩
  obtain ⟨P7, hP7⟩ : ∃ P, pwI 64 7 = P := ⟨_, rfl⟩
  obtain ⟨S7, hS7⟩ : ∃ S, sealA 5 7 (imgM ⟨#[111, 115]⟩ 1 ⟨#[]⟩) = S := ⟨_, rfl⟩
  rw [hP7, hS7]
  have H3 : Hid (BootIs (pwI 64 5) [sgn1 P7 S7, sgn2, sgn1 P7 S7] 2 1) := Lib.hid (by rw [← hP7, ← hS7]; exact three_is)
  have hbw2 : Below w.heap.size w w2 := grow_step (grow_alloc hb1 _) hb2
  have HB2 := Lib.hid ((HB1.out.below hb2).alloc_ (.cells #[.string ⟨#[111, 115]⟩, .int .i64 1, .string ⟨#[]⟩, .int .i64 P7, .int .i64 S7] 53))
  have HV2 := Lib.hid ((HV1.out.below hb2).below (grow_alloc (grow_refl _) (.cells #[.string ⟨#[111, 115]⟩, .int .i64 1, .string ⟨#[]⟩, .int .i64 P7, .int .i64 S7] 53)))
  have HO2 := Lib.hid (Box.new w2 53 #[.string ⟨#[111, 115]⟩, .int .i64 1, .string ⟨#[]⟩, .int .i64 P7, .int .i64 S7])
  have cO := HO2.out.cell
  have lO := HO2.out.lt
  have hp5 := pubM_yes H5.out
  have he5 := pubE_yes H5.out
  obtain ⟨Q, hQ⟩ : ∃ Q, pwI 64 5 = Q := ⟨_, rfl⟩
  rw [hQ] at hp5
  have HQ := Lib.hid hQ
  have HP5 := Lib.hid hp5
  have HE5 := Lib.hid he5
  clear hb1 hb2 HB1 HV1 hP7 hS7 hp5 he5 hQ
  go_wp2_with (go_at_call 45; refine (public_any _ _).mono ?_; rintro e w' ⟨rfl, rfl⟩; rw [HP5.out, HE5.out])
  have hS3 : SgnsAt ((w2.alloc (.cells #[.string ⟨#[111, 115]⟩, .int .i64 1, .string ⟨#[]⟩, .int .i64 P7, .int .i64 S7] 53)).alloc (.cells #[.string ⟨#[111, 115]⟩, .int .i64 1, .string ⟨#[]⟩, .int .i64 P7, .int .i64 S7, .string ⟨#[111, 115]⟩, .int .i64 2, .string ⟨#[]⟩, .int .i64 0, .int .i64 0, .string ⟨#[111, 115]⟩, .int .i64 1, .string ⟨#[]⟩, .int .i64 P7, .int .i64 S7] 53)) (some ⟨w2.heap.size + 1, 0, none⟩) [sgn1 P7 S7, sgn2, sgn1 P7 S7] := by
    have h := Box.new (w2.alloc (.cells #[.string ⟨#[111, 115]⟩, .int .i64 1, .string ⟨#[]⟩, .int .i64 P7, .int .i64 S7] 53)) 53 #[.string ⟨#[111, 115]⟩, .int .i64 1, .string ⟨#[]⟩, .int .i64 P7, .int .i64 S7, .string ⟨#[111, 115]⟩, .int .i64 2, .string ⟨#[]⟩, .int .i64 0, .int .i64 0, .string ⟨#[111, 115]⟩, .int .i64 1, .string ⟨#[]⟩, .int .i64 P7, .int .i64 S7]
    have e : (w2.alloc (.cells #[.string ⟨#[111, 115]⟩, .int .i64 1, .string ⟨#[]⟩, .int .i64 P7, .int .i64 S7] 53)).heap.size = w2.heap.size + 1 := by simp
    rw [e] at h
    exact SgnsAt.three h
  have hz3 : ∀ i, i < [sgn1 P7 S7, sgn2, sgn1 P7 S7].length → ([sgn1 P7 S7, sgn2, sgn1 P7 S7].getD i noSgn).1.size ≤ 140737488351232 ∧ ([sgn1 P7 S7, sgn2, sgn1 P7 S7].getD i noSgn).2.2.1.size ≤ 140737488351232 := fun i hi => by
    have e : i = 0 ∨ i = 1 ∨ i = 2 := by have : i < 3 := hi; omega
    rcases e with rfl | rfl | rfl <;> exact ⟨(by decide : (2 : Nat) ≤ 140737488351232), (by decide : (0 : Nat) ≤ 140737488351232)⟩
  have hr3 := bootRun_any Q (some ⟨w2.heap.size + 1, 0, none⟩) [sgn1 P7 S7, sgn2, sgn1 P7 S7] 3 _ hS3 hz3 (by rw [← HQ.out]; exact three_boot _ _) (HT.out.below (grow_alloc (grow_alloc hbw2 _) _))
  refine hr3.mono ?_
  clear hr3 hS3 hz3 cO lO
  rintro e w3 ⟨m3, n3, A3, c3, e3, x0, x1, x2, x3, x4, x5, x6, x7, hi3, he3, hx3, rfl, hv3, hb3⟩
  rw [← HQ.out] at hi3
  obtain ⟨rfl, rfl⟩ := H3.out.one hi3
  have hl3 : e3.length = 2 := by rw [he3, evK_len]
  rw [hl3]
  have hbw3 : Below w.heap.size w w3 := grow_step (grow_alloc (grow_alloc hbw2 _) _) hb3
  have HB3 := Lib.hid (((HB2.out.alloc_ (.cells #[.string ⟨#[111, 115]⟩, .int .i64 1, .string ⟨#[]⟩, .int .i64 P7, .int .i64 S7, .string ⟨#[111, 115]⟩, .int .i64 2, .string ⟨#[]⟩, .int .i64 0, .int .i64 0, .string ⟨#[111, 115]⟩, .int .i64 1, .string ⟨#[]⟩, .int .i64 P7, .int .i64 S7] 53)).below hb3).alloc_ (.cells #[.int .i64 x0, .int .i64 x1, .int .i64 x2, .int .i64 x3, .int .i64 x4, .int .i64 x5, .int .i64 x6, .int .i64 x7] 78))
  have HV3 := Lib.hid (((HV2.out.below (grow_alloc (grow_refl _) (.cells #[.string ⟨#[111, 115]⟩, .int .i64 1, .string ⟨#[]⟩, .int .i64 P7, .int .i64 S7, .string ⟨#[111, 115]⟩, .int .i64 2, .string ⟨#[]⟩, .int .i64 0, .int .i64 0, .string ⟨#[111, 115]⟩, .int .i64 1, .string ⟨#[]⟩, .int .i64 P7, .int .i64 S7] 53))).below hb3).below (grow_alloc (grow_refl _) (.cells #[.int .i64 x0, .int .i64 x1, .int .i64 x2, .int .i64 x3, .int .i64 x4, .int .i64 x5, .int .i64 x6, .int .i64 x7] 78)))
  clear hi3 he3 hx3 hv3 hb3 hl3 HB2 HV2 HO2 HP5 HE5
  by_cases h0 : E = 0
  rotate_left
  · have t : (E != 0) = true := by simp [h0]
    go_wp2_with fail
    go_ret
    exact ⟨rfl, (by repeat (first | (with_reducible exact grow_refl _) | (with_reducible assumption) | (with_reducible refine grow_alloc ?_ _) | (with_reducible refine grow_set ?_ (by first | exact Nat.le_refl _ | (simp; done) | (simp; omega) | omega) _) | (with_reducible refine grow_drewN ?_ _) | (with_reducible refine grow_drew ?_) | (with_reducible refine grow_step ?_ (by assumption)) | (with_reducible refine grow_base ?_ (by assumption))))⟩
  subst h0
  obtain ⟨hi, hes, hy⟩ := HI1.out rfl
  obtain ⟨m, hm⟩ : ∃ m, es.length = m := ⟨_, rfl⟩
  rw [hm] at hi hes hy
  obtain ⟨hq, h8, hX⟩ := bootE_ok HE.out
  have hmn := hi.le
  have hmm : (n < ss.length → m = n + 1) := fun h => by
    obtain ⟨_, h3⟩ := hi
    rcases h3 with ⟨h3, _⟩ | ⟨_, h3, _⟩ <;> omega
  have HI := Lib.hid hi
  have HES := Lib.hid hes
  have HY := Lib.hid hy
  have HX := Lib.hid hX
  have HMM := Lib.hid hmm
  have HLE := Lib.hid (show m ≤ 8 by omega)
  have HR := Lib.hid (show repB es = [y0, y1, y2, y3, y4, y5, y6, y7] ∧ evE es = 0 by rw [hes, repB_K (by omega), hy]; exact ⟨rfl, evE_K (by omega)⟩)
  clear hi hes hy hq hX HI1 hmm
  go_wp2_with fail
  have hrp := replay_any A1 c1 es _ HV3.out (by omega)
  rw [hm] at hrp
  refine hrp.mono ?_
  clear hrp
  rintro e w4 ⟨z0, z1, z2, z3, z4, z5, z6, z7, hz, rfl, hb4⟩
  rw [HR.out.1] at hz
  rw [HR.out.2]
  injection hz with z0_ hz
  injection hz with z1_ hz
  injection hz with z2_ hz
  injection hz with z3_ hz
  injection hz with z4_ hz
  injection hz with z5_ hz
  injection hz with z6_ hz
  injection hz with z7_ hz
  have u0_ := z0_.symm
  subst u0_
  have u1_ := z1_.symm
  subst u1_
  have u2_ := z2_.symm
  subst u2_
  have u3_ := z3_.symm
  subst u3_
  have u4_ := z4_.symm
  subst u4_
  have u5_ := z5_.symm
  subst u5_
  have u6_ := z6_.symm
  subst u6_
  have u7_ := z7_.symm
  subst u7_
  clear hz
  have HB4 := Lib.hid ((HB3.out.below hb4).alloc_ (.cells #[.int .i64 y0, .int .i64 y1, .int .i64 y2, .int .i64 y3, .int .i64 y4, .int .i64 y5, .int .i64 y6, .int .i64 y7] 78))
  have HX4 := Lib.hid (Box.new w4 78 #[.int .i64 y0, .int .i64 y1, .int .i64 y2, .int .i64 y3, .int .i64 y4, .int .i64 y5, .int .i64 y6, .int .i64 y7])
  have HV4 := Lib.hid ((HV3.out.below hb4).below (grow_alloc (grow_refl _) (.cells #[.int .i64 y0, .int .i64 y1, .int .i64 y2, .int .i64 y3, .int .i64 y4, .int .i64 y5, .int .i64 y6, .int .i64 y7] 78)))
  have cB := HB4.out.cell
  have lB := HB4.out.lt
  have cX := HX4.out.cell
  have lX := HX4.out.lt
  have qq1 := fun w => run_eq8_neq y0 y1 y2 y3 y4 y5 y6 y7 y0 y1 y2 y3 y4 y5 y6 y7 w
  have qq2 := fun o q w => run_eq8_guard y0 y1 y2 y3 y4 y5 y6 y7 y0 y1 y2 y3 y4 y5 y6 y7 .neq o q w
  have qe : ([y0, y1, y2, y3, y4, y5, y6, y7] == [y0, y1, y2, y3, y4, y5, y6, y7]) = true := by simp
  rw [qe] at qq1
  have hbw4 : Below w.heap.size w w4 := grow_step (grow_alloc hbw3 _) hb4
  have g1 : ¬ ((ss.length : Int) < (n : Int)) := by omega
  have g2 : ¬ ((m : Int) < (n : Int)) := by omega
  have g3 : ¬ ((n : Int) + 1 < (m : Int)) := by omega
  clear qe hb4 HB3 HV3
  go_upto_region 10 with fail
  go_cut [122] (fun b wx => b = .bool false ∧ wx = w4.alloc (.cells #[.int .i64 y0, .int .i64 y1, .int .i64 y2, .int .i64 y3, .int .i64 y4, .int .i64 y5, .int .i64 y6, .int .i64 y7] 78))
  case first =>
    by_cases hn : n < ss.length
    · have g4 : (n : Int) < (ss.length : Int) := by omega
      have g5 : ((m : Int) != (n : Int) + 1) = false := by have := HMM.out hn; simp; omega
      go_wp2_with fail
      go_meet
      exact ⟨by congr 1; simp; omega, rfl⟩
    · have g4 : ¬ (n : Int) < (ss.length : Int) := by omega
      go_wp2_with fail
      go_meet
      exact ⟨by congr 1; simp; omega, rfl⟩
  case rest =>
    obtain ⟨rfl, rfl⟩ := hcut
    clear cB lB cX lX qq1 qq2 g1 g2 g3
    go_wp2_with fail
    go_loopw [21] (fun i wr => ∃ k : Nat, i = .int .i64 k ∧ k ≤ m ∧ Hid (Box wr w1.heap.size 78 #[.int .i64 y0, .int .i64 y1, .int .i64 y2, .int .i64 y3, .int .i64 y4, .int .i64 y5, .int .i64 y6, .int .i64 y7]) ∧ Hid (EvsAt wr A1 es) ∧ Below w.heap.size w wr) (fun i _ => m - (intOf i).toNat)
    case atStart => exact ⟨0, rfl, by omega, HB4, HV4, (by repeat (first | (with_reducible exact grow_refl _) | (with_reducible assumption) | (with_reducible refine grow_alloc ?_ _) | (with_reducible refine grow_set ?_ (by first | exact Nat.le_refl _ | (simp; done) | (simp; omega) | omega) _) | (with_reducible refine grow_drewN ?_ _) | (with_reducible refine grow_drew ?_) | (with_reducible refine grow_step ?_ (by assumption)) | (with_reducible refine grow_base ?_ (by assumption))))⟩
    case round =>
      clear HB4 HV4 HX4
      obtain ⟨k, rfl, hk, HB, HV, hb⟩ := hrel
      by_cases hlt : k < m
      · have g0 : (k : Int) < (m : Int) := by omega
        have gk : (k : Int) < (ss.length : Int) := by omega
        obtain ⟨b1, off1, rfl, _, hcs⟩ := (HS.out.below hb) k (by omega)
        obtain ⟨z1, z2⟩ := HZ.out k (by omega)
        have hx0 := HX.out k (by omega)
        have hat := evK_at (ss := ss) (m := m) hlt
        rw [← HES.out] at hat
        have hsg1 := fun h => HI.out.1.2 k h
        have hsg2 : ¬ k < n → sgC p (ss.getD k noSgn) ≠ 0 := fun h => by
          obtain ⟨_, h3⟩ := HI.out
          rcases h3 with ⟨h3, h4⟩ | ⟨h3, h4, h5⟩
          · omega
          · obtain rfl : k = n := by omega
            exact h5
        obtain ⟨⟨sn, sv, sc, sp, sa⟩, hz⟩ : ∃ z, ss.getD k noSgn = z := ⟨_, rfl⟩
        rw [hz] at hcs z1 z2 hx0 hat hsg1 hsg2
        simp only [sgnCs, sgX, sgW, sgC] at hcs z1 z2 hx0 hat hsg1 hsg2
        have HX0 := Lib.hid hx0
        have HZ1 := Lib.hid hz
        have HAT := Lib.hid hat
        have HS1 := Lib.hid hsg1
        have HS2 := Lib.hid hsg2
        have e0 := hcs 0 (by decide)
        have e1 := hcs 1 (by decide)
        have e2 := hcs 2 (by decide)
        have e3 := hcs 3 (by decide)
        have e4 := hcs 4 (by decide)
        simp [-CellFam.cellOfFamily] at e0 e1 e2 e3 e4
        clear hz hcs hx0 hat hsg1 hsg2
        go_wp2_with fail
        refine (imgMeasure_ok sn sv sc _ HX0.out (by omega) (by omega) (HT.out.below hb)).mono ?_
        rintro e w6 ⟨rfl, hb6⟩
        have hbw6 : Below w.heap.size w w6 := grow_step hb hb6
        have HB6 := Lib.hid (HB.out.below hb6)
        have HV6 := Lib.hid (HV.out.below hb6)
        obtain ⟨b', o', eq', lb', hcs⟩ := (HS.out.below hbw6) k (by omega)
        injection eq' with eq'
        injection eq' with qa qb
        subst qa
        subst qb
        rw [HZ1.out] at hcs
        simp only [sgnCs] at hcs
        clear e0 e1 e2 e3 e4
        have f0 := hcs 0 (by decide)
        have f1 := hcs 1 (by decide)
        have f2 := hcs 2 (by decide)
        have f3 := hcs 3 (by decide)
        have f4 := hcs 4 (by decide)
        simp [-CellFam.cellOfFamily] at f0 f1 f2 f3 f4
        clear hcs hb6 HB HV
        go_wp2_with fail
        refine (signCheck_any p sn sv sc sp sa _ (by omega) (by omega) (HT.out.below hbw6)).mono ?_
        rintro e w7 ⟨rfl, hb7⟩
        have hbw7 : Below w.heap.size w w7 := grow_step hbw6 hb7
        have HB7 := Lib.hid (HB6.out.below hb7)
        have HV7 := Lib.hid (HV6.out.below hb7)
        obtain ⟨ba, oa, rfl, la, d1, d2⟩ := HV7.out k (by rw [hm]; exact hlt)
        rw [HAT.out] at d1 d2
        simp only at d1 d2
        clear HB6 HV6 hb7 f0 f1 f2 f3 f4 hb hbw6
        by_cases hin : k < n
        · have gi : (k : Int) < (n : Int) := by omega
          rw [HS1.out hin]
          go_wp2_with fail
          go_roundw
          case rel => exact ⟨k + 1, by go_num, by omega, HB7, HV7, (by repeat (first | (with_reducible exact grow_refl _) | (with_reducible assumption) | (with_reducible refine grow_alloc ?_ _) | (with_reducible refine grow_set ?_ (by first | exact Nat.le_refl _ | (simp; done) | (simp; omega) | omega) _) | (with_reducible refine grow_drewN ?_ _) | (with_reducible refine grow_drew ?_) | (with_reducible refine grow_step ?_ (by assumption)) | (with_reducible refine grow_base ?_ (by assumption))))⟩
          case measure => simp [intOf]; omega
        · have gi : ¬ (k : Int) < (n : Int) := by omega
          have hne := HS2.out hin
          obtain ⟨E, hE⟩ : ∃ E, signE p sn sv sc sp sa = E := ⟨_, rfl⟩
          rw [hE] at hne ⊢
          have t : (E == 0) = false := by simp [hne]
          have t' : (E != 0) = true := by simp [hne]
          clear hE hne
          go_wp2_with fail
          go_roundw
          case rel => exact ⟨k + 1, by go_num, by omega, HB7, HV7, (by repeat (first | (with_reducible exact grow_refl _) | (with_reducible assumption) | (with_reducible refine grow_alloc ?_ _) | (with_reducible refine grow_set ?_ (by first | exact Nat.le_refl _ | (simp; done) | (simp; omega) | omega) _) | (with_reducible refine grow_drewN ?_ _) | (with_reducible refine grow_drew ?_) | (with_reducible refine grow_step ?_ (by assumption)) | (with_reducible refine grow_base ?_ (by assumption))))⟩
          case measure => simp [intOf]; omega
      · have g0 : ¬ (k : Int) < (m : Int) := by omega
        clear hlt
        by_cases c0 : cut < 0
        · go_wp2_with fail
          go_ret
          exact ⟨rfl, (by repeat (first | (with_reducible exact grow_refl _) | (with_reducible assumption) | (with_reducible refine grow_alloc ?_ _) | (with_reducible refine grow_set ?_ (by first | exact Nat.le_refl _ | (simp; done) | (simp; omega) | omega) _) | (with_reducible refine grow_drewN ?_ _) | (with_reducible refine grow_drew ?_) | (with_reducible refine grow_step ?_ (by assumption)) | (with_reducible refine grow_base ?_ (by assumption))))⟩
        · by_cases c1_ : (ss.length : Int) < cut
          · go_wp2_with fail
            go_ret
            exact ⟨rfl, (by repeat (first | (with_reducible exact grow_refl _) | (with_reducible assumption) | (with_reducible refine grow_alloc ?_ _) | (with_reducible refine grow_set ?_ (by first | exact Nat.le_refl _ | (simp; done) | (simp; omega) | omega) _) | (with_reducible refine grow_drewN ?_ _) | (with_reducible refine grow_drew ?_) | (with_reducible refine grow_step ?_ (by assumption)) | (with_reducible refine grow_base ?_ (by assumption))))⟩
          · obtain ⟨q, rfl⟩ : ∃ q : Nat, cut = q := ⟨cut.toNat, by omega⟩
            have hq : q ≤ ss.length := by omega
            have htl : (ss.take q).length = q := by rw [List.length_take]; omega
            go_wp2_with fail
            have hr := bootRun_any p A (ss.take q) c _ (SgnsAt.take_ (HS.out.below hb) q) (fun i hi => by rw [htl] at hi; rw [take_at hi]; exact HZ.out i (by omega)) (bootE_take HE.out q hq) (HT.out.below hb)
            rw [htl] at hr
            refine hr.mono ?_
            clear hr
            rintro e w6 ⟨m2, n2, A4, c4, e4, r0, r1, r2, r3, r4, r5, r6, r7, hi4, he4, hr4, rfl, hv4, hb6⟩
            obtain ⟨t1_, t2_, t3_⟩ := HI.out.take hi4 hq
            have hl4 : e4.length = m2 := by rw [he4, evK_len]
            rw [hl4]
            have g1 : ¬ ((n : Int) < (n2 : Int)) := by omega
            have g2 : ¬ ((m : Int) < (m2 : Int)) := by omega
            have HB6 := Lib.hid ((HB.out.below hb6).alloc_ (.cells #[.int .i64 r0, .int .i64 r1, .int .i64 r2, .int .i64 r3, .int .i64 r4, .int .i64 r5, .int .i64 r6, .int .i64 r7] 78))
            have HV6 := Lib.hid ((HV.out.below hb6).below (grow_alloc (grow_refl _) (.cells #[.int .i64 r0, .int .i64 r1, .int .i64 r2, .int .i64 r3, .int .i64 r4, .int .i64 r5, .int .i64 r6, .int .i64 r7] 78)))
            have HU6 := Lib.hid (Box.new w6 78 #[.int .i64 r0, .int .i64 r1, .int .i64 r2, .int .i64 r3, .int .i64 r4, .int .i64 r5, .int .i64 r6, .int .i64 r7])
            have HW6 := Lib.hid (hv4.below (grow_alloc (grow_refl _) (.cells #[.int .i64 r0, .int .i64 r1, .int .i64 r2, .int .i64 r3, .int .i64 r4, .int .i64 r5, .int .i64 r6, .int .i64 r7] 78)))
            have hbw6 : Below w.heap.size w w6 := grow_step hb hb6
            have HE4 := Lib.hid he4
            have HU4 := Lib.hid hr4
            have HL4 := Lib.hid hl4
            have hlu : m2 ≤ 8 := by have := HLE.out; omega
            clear HB HV hv4 hb6 hi4 he4 hr4 hl4 hb
            go_wp2_with fail
            go_loopw [28] (fun i wr => ∃ j : Nat, i = .int .i64 j ∧ j ≤ m2 ∧ Below (w6.heap.size + 1) (w6.alloc (.cells #[.int .i64 r0, .int .i64 r1, .int .i64 r2, .int .i64 r3, .int .i64 r4, .int .i64 r5, .int .i64 r6, .int .i64 r7] 78)) wr) (fun i _ => m2 - (intOf i).toNat)
            case atStart => exact ⟨0, rfl, by omega, Below.refl _ _⟩
            case round =>
              obtain ⟨j, rfl, hj, hbj⟩ := hrel
              have hsz : (w6.alloc (.cells #[.int .i64 r0, .int .i64 r1, .int .i64 r2, .int .i64 r3, .int .i64 r4, .int .i64 r5, .int .i64 r6, .int .i64 r7] 78)).heap.size = w6.heap.size + 1 := by simp
              have hbj' : Below (w6.alloc (.cells #[.int .i64 r0, .int .i64 r1, .int .i64 r2, .int .i64 r3, .int .i64 r4, .int .i64 r5, .int .i64 r6, .int .i64 r7] 78)).heap.size (w6.alloc (.cells #[.int .i64 r0, .int .i64 r1, .int .i64 r2, .int .i64 r3, .int .i64 r4, .int .i64 r5, .int .i64 r6, .int .i64 r7] 78)) wr := by rw [hsz]; exact hbj
              have hbr : Below w.heap.size w wr := grow_step (grow_alloc hbw6 _) hbj'
              by_cases hjl : j < m2
              · have g3 : (j : Int) < (m2 : Int) := by omega
                have g4 : (j : Int) < (m : Int) := by omega
                have g5 : (j : Int) < 8 := by omega
                have ha1 := evK_at (ss := ss) (m := m) (show j < m by omega)
                rw [← HES.out] at ha1
                have ha2 := evK_at (ss := ss.take q) (m := m2) hjl
                rw [← HE4.out, take_at (by omega)] at ha2
                have hb1_ := (HB6.out.below hbj').at_ (xs := [y0, y1, y2, y3, y4, y5, y6, y7]) j (show j < 8 by omega)
                have hb2_ := (HU6.out.below hbj').at_ (xs := [r0, r1, r2, r3, r4, r5, r6, r7]) j (show j < 8 by omega)
                rw [HY.out, bankK_get (by omega), cellK_in (by omega)] at hb1_
                rw [HU4.out, bankK_get (by omega), cellK_in hjl, take_at (by omega)] at hb2_
                obtain ⟨ba, oa, rfl, la, d1, d2⟩ := (HV6.out.below hbj') j (by rw [hm]; omega)
                obtain ⟨bb, ob, rfl, lb, d3, d4⟩ := (HW6.out.below hbj') j (by rw [HL4.out]; exact hjl)
                rw [ha1] at d1 d2
                rw [ha2] at d3 d4
                simp only at d1 d2 d3 d4
                obtain ⟨V, hV⟩ : ∃ V, pairM 0 (sgW (ss.getD j noSgn)) = V := ⟨_, rfl⟩
                obtain ⟨M, hM⟩ : ∃ M, sgW (ss.getD j noSgn) = M := ⟨_, rfl⟩
                rw [hV] at hb1_ hb2_
                rw [hM] at d2 d4
                have l1 := (HB6.out.below hbj').lt
                have l2 := (HU6.out.below hbj').lt
                have q1 := fun w => ev_neq_self (j : Int) M w
                have q2 := fun o p w => ev_nguard (j : Int) M (j : Int) M o p w
                clear ha1 ha2 hV hM hbj' hsz
                go_wp2_with fail
                go_region
                all_goals
                  go_wp2_with fail
                  go_roundw
                  case rel => exact ⟨j + 1, by go_num, by omega, by first | exact hbj | exact hbj.drew⟩
                  case measure => simp [intOf]; omega
              · have g3 : ¬ (j : Int) < (m2 : Int) := by omega
                go_wp2_with fail
                go_ret
                exact ⟨rfl, hbr⟩

set_option maxRecDepth 100000 in
theorem bootMeasures_walks (H : Type) (enc : TypeId × Value → H) : WalksD enc Tryd.prog TabT 13 Tryd.f13 := by
  intro W base args ds p hval hA hlt hsz hsh hdoor
  have hsz0 := hsz
  rw [Tryd.params13] at hA hval
  obtain ⟨v0, vs0, d0, ds0, p0, q0, hargs, rfl, rfl, h0, r0⟩ := trodAll_cons hA
  obtain ⟨v1, vs1, d1, ds1, p1, q1, rfl, rfl, rfl, h1, r1⟩ := trodAll_cons r0
  obtain ⟨v2, vs2, d2, ds2, p2, q2, rfl, rfl, rfl, h2, r2⟩ := trodAll_cons r1
  obtain ⟨rfl, rfl, rfl⟩ := trodAll_nil r2
  obtain rfl : args = #[v0, v1, v2] := by cases args; simp_all
  obtain ⟨a0, rfl, w0⟩ := op_int (hval 0 3 v0 rfl rfl) h0
  obtain ⟨A1, a1, c1, rfl, w1, z1, y1, g1⟩ := op_signeds (hval 1 65 v1 rfl rfl) h1 (fun x hx => hlt x (by simp [hx])) (w_each hsz 1 65 _ (by rw [Tryd.params13]; rfl) rfl)
  obtain ⟨a2, rfl, w2⟩ := op_int (hval 2 3 v2 rfl rfl) h2
  exact bootMeasures_walk W a0 A1 a1 c1 a2 w0 w1 z1 y1 g1 w2 hdoor

set_option maxRecDepth 100000 in
theorem bootMeasures_lifted (os : Os) (started : os.Started) (H : Type) (enc : TypeId × Value → H) :
    ReturnsInHanded {} Tryd.checked os 13 .any (fun w args => (Rows.bootMeasuresSpec.pre enc Tryd.checked.prog Tryd.f13 [] false w args ∧ laidMetH Tryd.checked.prog LaidT w) ∧ sizedMet enc Tryd.checked.prog Tryd.f13 (OpenSpec.ofChange Rows.bootMeasuresSpec) false w args) (Rows.bootMeasuresSpec.post enc Tryd.checked.prog Tryd.f13 false true false false) :=
  returns_of_walkD (C := Tryd.checked) (s := Rows.bootMeasuresSpec) (L := LaidT) (D := TabT) own started (by kernel_rfl) Tryd.func13
    (ChangeSpec.witness_at (enc := enc) (C := Tryd.checked) (os := os) (X := fun w _ => laidMetH Tryd.prog LaidT w) false (laidWorldT os) #[.int .i64 0, .slice none 0 0, .int .i64 0] 8 rfl (by kernel_rfl) (by kernel_rfl) (by kernel_rfl) (by kernel_rfl) (by kernel_rfl) (laidWorldT_met os _))
    (fun W h => tabT_of_laid h) laidOut (by kernel_rfl) rfl Tryd.underlying4 rfl (fun ds h => by match ds, h with | [_, _, _], _ => rfl) (bootMeasures_walks H enc)

theorem bootMeasures_bare : Rows.BootMeasuresSaid :=
  OpenClaim.holds_of_wide 13 Tryd.f13 rfl rfl rfl rfl rfl rfl rfl ⟨rfl, rfl, rfl, rfl, rfl⟩ rfl rfl rfl rfl rfl (by kernel_rfl) Tryd.func13 (by kernel_rfl)
    (of_decide_eq_true (by kernel_rfl)) (by unfold Func.isWrapper; rw [if_neg (of_decide_eq_false (by kernel_rfl))]; exact ⟨rfl, rfl⟩)
    (fun os started H enc _ => bootMeasures_lifted os started H enc)

theorem bootMeasures_holds : Rows.BootMeasuresCardSaid :=
  Claim7.holds_tied_plain_at .later [] [.data, .data, .data] true Rows.bootMeasuresCard.stood.harness true
    bootMeasures_bare (fun _ h => by cases h) (by kernel_rfl) (fun _ h => by cases h) bootMeasures_row_tie rfl ⟨rfl, rfl⟩ (by kernel_rfl) rfl
    (fun f fn hf hfn => by
      obtain rfl : f = 13 := Option.some.inj ((show Tryd.prog.funcNamed "bootstair/stairlaw2.BootMeasures" = some 13 by kernel_rfl).symm.trans hf) |>.symm
      obtain rfl : fn = Tryd.f13 := (Option.some.inj (Tryd.func13.symm.trans hfn)).symm
      exact ⟨by kernel_rfl, fun j t ht => by
        have hm : t ∈ Tryd.f13.params.toList := by simpa using Array.mem_of_getElem? ht
        have hall : (Tryd.f13.params.toList.all fun u => !Tryd.prog.wantsStandIn u) = true := by kernel_rfl
        exact (show Tryd.prog.wantsStandIn t = false by simpa using List.all_eq_true.1 hall t hm)⟩)
    (by kernel_rfl)

end Go.Proofs.YtnocigkfhdnhfaaDoor
