/- EventTells: what is wrong with any events, the bank they come to, and whether it is any: the program's is the reference's. The package variable errors.errorType holds what the program's text lays. -/
import Derived.Test.YtebecndmlgolpaaDoorRows
import Derived.Test.YtebecndmlgolpaaDoorOpen
import Derived.Test.YtebecndmlgolpaaDoorOpE
import Derived.Test.YtebecndmlgolpaaDoorEq8
import Derived.Test.YtebecndmlgolpaaDoorEvent2
import Derived.Test.YtebecndmlgolpaaDoorMatch
import Derived.Test.YtebecndmlgolpaaDoorAlike
import Derived.Test.YtebecndmlgolpaaDoorRefB
import Derived.Test.YtebecndmlgolpaaDoorRefE
import Derived.Test.YtebecndmlgolpaaDoorTold
import Derived.Test.YtebecndmlgolpaaDoorBds
import Derived.Test.YtebecndmlgolpaaDoorLiftD
import Derived.WalkKit
import Derived.Lib.Hide
import Derived.Deep.CutRange
import Derived.Deep.DeepCutAuto
import Derived.Deep.QuietTactic
import Derived.BigQuiet
namespace Go.Proofs.YtebecndmlgolpaaDoor
open Go.ChangeShapes Go.WideShapes Go.ChangeAt Go.RowKit
set_option linter.unusedVariables false
set_option maxRecDepth 100000

theorem matE_bd (es : List (Int × Int)) (b : List Int) (m : Int) : I64 (matE es b m) := by
  unfold matE; split
  · exact sameE_bd _ _ _
  · exact evE_bd _
theorem mat_alike (es : List (Int × Int)) (b : List Int) (m : Int) : matB es b m = (decide (matE es b m = 0) && alikeK (repB es) b m 8) := by
  unfold matB matE repB
  by_cases h : evE es = 0
  · rw [if_pos h, if_pos h, same_alike]; simp [h]
  · rw [if_neg h, if_neg h]; simp [h]
theorem repB_len (es : List (Int × Int)) : (repB es).length = 8 := by
  unfold repB; split
  · exact evBank_len _
  · rfl

set_option maxHeartbeats 4000000 in
theorem eventTells_walk (w : World) (A : Option Addr) (es : List (Int × Int)) (c : Nat) (x0 x1 x2 x3 x4 x5 x6 x7 : Int) (m : Int) (hA : EvsAt w A es) (hz : es.length * 16 ≤ 140737488351232) (hc : es.length ≤ c) (im : I64 m) (hg : Door w) :
    Calls Tryd.prog 9 #[.slice A es.length c, .agg #[.int .i64 x0, .int .i64 x1, .int .i64 x2, .int .i64 x3, .int .i64 x4, .int .i64 x5, .int .i64 x6, .int .i64 x7], .int .i64 m] w fun e w' => e = .returned (.bool true) ∧ Below w.heap.size w w' := by
  have HG := Lib.hid hg
  have HA := Lib.hid hA
  have HN := Lib.hid (Box.new w 47 #[.int .i64 x0, .int .i64 x1, .int .i64 x2, .int .i64 x3, .int .i64 x4, .int .i64 x5, .int .i64 x6, .int .i64 x7])
  obtain ⟨E, hE⟩ : ∃ E, evE es = E := ⟨_, rfl⟩
  have iE : I64 E := by rw [← hE]; exact evE_bd es
  have HE := Lib.hid hE
  obtain ⟨z0, z1, z2, z3, z4, z5, z6, z7, hzz⟩ := list8 (repB_len es)
  have HZ := Lib.hid hzz
  clear hg hA hE hzz
  go_enter Tryd.func9, Tryd.ntmps9
  go_wp2_with fail
  refine (rEvents_any A c es _ (HA.out.below (by repeat (first | (with_reducible exact grow_refl _) | (with_reducible assumption) | (with_reducible refine grow_alloc ?_ _) | (with_reducible refine grow_set ?_ (by first | exact Nat.le_refl _ | (simp; done) | (simp; omega) | omega) _) | (with_reducible refine grow_drewN ?_ _) | (with_reducible refine grow_drew ?_) | (with_reducible refine grow_step ?_ (by assumption)) | (with_reducible refine grow_base ?_ (by assumption))))) (by omega)).mono ?_
  rintro e w1 ⟨rfl, rfl⟩
  rw [HE.out]
  go_wp2_with fail
  refine (evCheck_any A c es _ (HA.out.below (by repeat (first | (with_reducible exact grow_refl _) | (with_reducible assumption) | (with_reducible refine grow_alloc ?_ _) | (with_reducible refine grow_set ?_ (by first | exact Nat.le_refl _ | (simp; done) | (simp; omega) | omega) _) | (with_reducible refine grow_drewN ?_ _) | (with_reducible refine grow_drew ?_) | (with_reducible refine grow_step ?_ (by assumption)) | (with_reducible refine grow_base ?_ (by assumption))))) (by omega)).mono ?_
  rintro e w2 ⟨rfl, hb2⟩
  rw [HE.out]
  have BB2 := Lib.hid (HN.out.below hb2)
  go_wp2_with fail
  refine (error_any _ _ _ (HG.out.below (by repeat (first | (with_reducible exact grow_refl _) | (with_reducible assumption) | (with_reducible refine grow_alloc ?_ _) | (with_reducible refine grow_set ?_ (by first | exact Nat.le_refl _ | (simp; done) | (simp; omega) | omega) _) | (with_reducible refine grow_drewN ?_ _) | (with_reducible refine grow_drew ?_) | (with_reducible refine grow_step ?_ (by assumption)) | (with_reducible refine grow_base ?_ (by assumption))))) iE).mono ?_
  rintro e w3 ⟨rfl, hb3⟩
  have BB3 := Lib.hid (BB2.out.below hb3)
  have l3 := BB3.out.lt
  go_upto_if 25 with fail
  have BW := Lib.hid (Box.new w3 47 #[.int .i64 0, .int .i64 0, .int .i64 0, .int .i64 0, .int .i64 0, .int .i64 0, .int .i64 0, .int .i64 0])
  go_cut [7] (fun e wx => e = .int .i64 E ∧ Below w.heap.size w wx ∧ Hid (Box wx w.heap.size 47 #[.int .i64 x0, .int .i64 x1, .int .i64 x2, .int .i64 x3, .int .i64 x4, .int .i64 x5, .int .i64 x6, .int .i64 x7]) ∧ Hid (Box wx w3.heap.size 47 #[.int .i64 z0, .int .i64 z1, .int .i64 z2, .int .i64 z3, .int .i64 z4, .int .i64 z5, .int .i64 z6, .int .i64 z7]))
  case first =>
    by_cases h0 : E = 0
    · have t : (E == 0) = true := by simp [h0]
      have HK := Lib.hid (evE_ok (HE.out.trans h0))
      have HR : Hid (evBank es = [z0, z1, z2, z3, z4, z5, z6, z7]) := Lib.hid (by rw [← HZ.out]; unfold repB; rw [if_pos (HE.out.trans h0)])
      clear h0
      go_wp2_with fail
      refine (rReplay_any A c es _ (HA.out.below (by repeat (first | (with_reducible exact grow_refl _) | (with_reducible assumption) | (with_reducible refine grow_alloc ?_ _) | (with_reducible refine grow_set ?_ (by first | exact Nat.le_refl _ | (simp; done) | (simp; omega) | omega) _) | (with_reducible refine grow_drewN ?_ _) | (with_reducible refine grow_drew ?_) | (with_reducible refine grow_step ?_ (by assumption)) | (with_reducible refine grow_base ?_ (by assumption))))) (by omega) HK.out.2).mono ?_
      rintro e w4 ⟨y0, y1, y2, y3, y4, y5, y6, y7, hy, rfl, hb4⟩
      rw [HR.out] at hy
      simp only [List.cons.injEq, and_true] at hy
      obtain ⟨rfl, rfl, rfl, rfl, rfl, rfl, rfl, rfl⟩ := hy
      have BW4 := Lib.hid (BW.out.below hb4)
      have BB4 := Lib.hid ((BB3.out.alloc_ _).below hb4)
      have cW := BW4.out.cell
      have fW := BW4.out.frozen
      have lW := BW4.out.lt
      go_wp2_with fail
      go_meet
      exact ⟨rfl, (by repeat (first | (with_reducible exact grow_refl _) | (with_reducible assumption) | (with_reducible refine grow_alloc ?_ _) | (with_reducible refine grow_set ?_ (by first | exact Nat.le_refl _ | (simp; done) | (simp; omega) | omega) _) | (with_reducible refine grow_drewN ?_ _) | (with_reducible refine grow_drew ?_) | (with_reducible refine grow_step ?_ (by assumption)) | (with_reducible refine grow_base ?_ (by assumption)))), Lib.hid ((((((((BB4.out.far (by simp; omega) _).far (by simp; omega) _).far (by simp; omega) _).far (by simp; omega) _).far (by simp; omega) _).far (by simp; omega) _).far (by simp; omega) _).far (by simp; omega) _), Lib.hid (BW4.out.fill8 _ _ _ _ _ _ _ _)⟩
    · have t : (E == 0) = false := by simpa using h0
      have HR : Hid ([0, 0, 0, 0, 0, 0, 0, 0] = [z0, z1, z2, z3, z4, z5, z6, z7]) := Lib.hid (by rw [← HZ.out]; unfold repB; rw [if_neg (by rw [HE.out]; exact h0)])
      have hy := HR.out
      simp only [List.cons.injEq, and_true] at hy
      obtain ⟨rfl, rfl, rfl, rfl, rfl, rfl, rfl, rfl⟩ := hy
      clear h0
      go_wp2_with fail
      go_meet
      exact ⟨rfl, (by repeat (first | (with_reducible exact grow_refl _) | (with_reducible assumption) | (with_reducible refine grow_alloc ?_ _) | (with_reducible refine grow_set ?_ (by first | exact Nat.le_refl _ | (simp; done) | (simp; omega) | omega) _) | (with_reducible refine grow_drewN ?_ _) | (with_reducible refine grow_drew ?_) | (with_reducible refine grow_step ?_ (by assumption)) | (with_reducible refine grow_base ?_ (by assumption)))), Lib.hid (BB3.out.alloc_ _), BW⟩
  case rest =>
  obtain ⟨rfl, hb5, BB5, BW5⟩ := hcut
  go_wp2_with fail
  refine (replay_any A c es _ (HA.out.below (by repeat (first | (with_reducible exact grow_refl _) | (with_reducible assumption) | (with_reducible refine grow_alloc ?_ _) | (with_reducible refine grow_set ?_ (by first | exact Nat.le_refl _ | (simp; done) | (simp; omega) | omega) _) | (with_reducible refine grow_drewN ?_ _) | (with_reducible refine grow_drew ?_) | (with_reducible refine grow_step ?_ (by assumption)) | (with_reducible refine grow_base ?_ (by assumption))))) (by omega)).mono ?_
  rintro e w6 ⟨y0, y1, y2, y3, y4, y5, y6, y7, hy, rfl, hb6⟩
  rw [HE.out]
  rw [HZ.out] at hy
  simp only [List.cons.injEq, and_true] at hy
  obtain ⟨rfl, rfl, rfl, rfl, rfl, rfl, rfl, rfl⟩ := hy
  have BB6 := Lib.hid (BB5.out.below hb6)
  have BW6 := Lib.hid (BW5.out.below hb6)
  go_wp2_with fail
  have BX := Box.new w6 47 #[.int .i64 y0, .int .i64 y1, .int .i64 y2, .int .i64 y3, .int .i64 y4, .int .i64 y5, .int .i64 y6, .int .i64 y7]
  have l6 := BW6.out.lt
  refine (error_any _ _ _ (HG.out.below (by repeat (first | (with_reducible exact grow_refl _) | (with_reducible assumption) | (with_reducible refine grow_alloc ?_ _) | (with_reducible refine grow_set ?_ (by first | exact Nat.le_refl _ | (simp; done) | (simp; omega) | omega) _) | (with_reducible refine grow_drewN ?_ _) | (with_reducible refine grow_drew ?_) | (with_reducible refine grow_step ?_ (by assumption)) | (with_reducible refine grow_base ?_ (by assumption))))) iE).mono ?_
  rintro e w7 ⟨rfl, hb7⟩
  have BX7 := BX.below hb7
  have BW7 := Lib.hid ((BW6.out.alloc_ _).below hb7)
  have BB7 := Lib.hid ((BB6.out.alloc_ _).below hb7)
  have cX := BX7.cell
  have lX := BX7.lt
  have cW := BW7.out.cell
  have lW := BW7.out.lt
  have rq : ∀ w, (binOp .eql 47 (.agg #[.int .i64 y0, .int .i64 y1, .int .i64 y2, .int .i64 y3, .int .i64 y4, .int .i64 y5, .int .i64 y6, .int .i64 y7]) (.agg #[.int .i64 y0, .int .i64 y1, .int .i64 y2, .int .i64 y3, .int .i64 y4, .int .i64 y5, .int .i64 y6, .int .i64 y7])).run Tryd.prog w = .ok (.bool true) w := fun w => by rw [run_eq8_eql]; simp
  have rg := fun o p w => run_eq8_guard y0 y1 y2 y3 y4 y5 y6 y7 y0 y1 y2 y3 y4 y5 y6 y7 .eql o p w
  go_upto_if 42 with fail
  clear cX cW rq rg
  obtain ⟨E2, hE2⟩ : ∃ E2, matE es [x0, x1, x2, x3, x4, x5, x6, x7] m = E2 := ⟨_, rfl⟩
  have iE2 : I64 E2 := by rw [← hE2]; exact matE_bd _ _ _
  have HE2 := Lib.hid hE2
  clear hE2
  go_cut [7] (fun e wx => e = .int .i64 E2 ∧ Below w.heap.size w wx ∧ Hid (Box wx w.heap.size 47 #[.int .i64 x0, .int .i64 x1, .int .i64 x2, .int .i64 x3, .int .i64 x4, .int .i64 x5, .int .i64 x6, .int .i64 x7]) ∧ Hid (Box wx w3.heap.size 47 #[.int .i64 y0, .int .i64 y1, .int .i64 y2, .int .i64 y3, .int .i64 y4, .int .i64 y5, .int .i64 y6, .int .i64 y7]))
  case first =>
    by_cases h0 : E = 0
    · have t : (E == 0) = true := by simp [h0]
      have HD : Hid (digE [x0, x1, x2, x3, x4, x5, x6, x7] m = E2) := Lib.hid (by rw [← HE2.out]; unfold matE; rw [if_pos (HE.out.trans h0), sameE_dig (evBank_ok es)])
      clear h0
      have cB := BB7.out.cell
      have lB := BB7.out.lt
      go_wp2_with fail
      clear cB
      refine (rDigested_any x0 x1 x2 x3 x4 x5 x6 x7 m _).mono ?_
      rintro e w8 ⟨rfl, hb8⟩
      rw [HD.out]
      have BB8 := Lib.hid (BB7.out.below hb8)
      have BW8 := Lib.hid (BW7.out.below hb8)
      go_wp2_with fail
      go_meet
      exact ⟨rfl, (by repeat (first | (with_reducible exact grow_refl _) | (with_reducible assumption) | (with_reducible refine grow_alloc ?_ _) | (with_reducible refine grow_set ?_ (by first | exact Nat.le_refl _ | (simp; done) | (simp; omega) | omega) _) | (with_reducible refine grow_drewN ?_ _) | (with_reducible refine grow_drew ?_) | (with_reducible refine grow_step ?_ (by assumption)) | (with_reducible refine grow_base ?_ (by assumption)))), BB8, BW8⟩
    · have t : (E == 0) = false := by simpa using h0
      have HD : Hid (E = E2) := Lib.hid (by rw [← HE2.out]; unfold matE; rw [if_neg (by rw [HE.out]; exact h0), HE.out])
      clear h0
      go_wp2_with fail
      go_meet
      exact ⟨by rw [HD.out], (by repeat (first | (with_reducible exact grow_refl _) | (with_reducible assumption) | (with_reducible refine grow_alloc ?_ _) | (with_reducible refine grow_set ?_ (by first | exact Nat.le_refl _ | (simp; done) | (simp; omega) | omega) _) | (with_reducible refine grow_drewN ?_ _) | (with_reducible refine grow_drew ?_) | (with_reducible refine grow_step ?_ (by assumption)) | (with_reducible refine grow_base ?_ (by assumption)))), BB7, BW7⟩
  case rest =>
  obtain ⟨rfl, hb9, BB9, BW9⟩ := hcut
  have hmok : E2 = 0 → 0 ≤ m ∧ m ≤ 255 := fun h => by
    have h1 := HE2.out
    unfold matE at h1
    by_cases h2 : evE es = 0
    · rw [if_pos h2, sameE_dig (evBank_ok es), h] at h1
      unfold digE at h1
      cases h3 : (([x0, x1, x2, x3, x4, x5, x6, x7]).all okM && okMask m)
      · rw [h3] at h1; exact absurd h1 (by decide)
      · exact okMask_yes (Bool.and_eq_true_iff.1 h3).2
    · rw [if_neg h2] at h1; exact absurd (h1.trans h) h2
  have HMK := Lib.hid hmok
  clear hmok
  go_wp2_with fail
  obtain ⟨b0, hb0⟩ : ∃ b0, (E2 == 0) = b0 := ⟨_, rfl⟩
  rw [hb0]
  have HB0 := Lib.hid hb0
  clear hb0
  go_loopw [13, 14, 15] (fun s i _ wr => ∃ (k : Nat) (V : Bool), k ≤ 8 ∧ i = .int .i64 k ∧ s = .bool V ∧ Hid (V = (decide (E2 = 0) && alikeK [y0, y1, y2, y3, y4, y5, y6, y7] [x0, x1, x2, x3, x4, x5, x6, x7] m k)) ∧ Below w.heap.size w wr ∧ Hid (Box wr w.heap.size 47 #[.int .i64 x0, .int .i64 x1, .int .i64 x2, .int .i64 x3, .int .i64 x4, .int .i64 x5, .int .i64 x6, .int .i64 x7]) ∧ Hid (Box wr w3.heap.size 47 #[.int .i64 y0, .int .i64 y1, .int .i64 y2, .int .i64 y3, .int .i64 y4, .int .i64 y5, .int .i64 y6, .int .i64 y7])) (fun _ i _ _ => 8 - (intOf i).toNat)
  case atStart => exact ⟨0, b0, by omega, rfl, rfl, Lib.hid (by rw [← HB0.out]; unfold alikeK; by_cases h : E2 = 0 <;> simp [h]), (by repeat (first | (with_reducible exact grow_refl _) | (with_reducible assumption) | (with_reducible refine grow_alloc ?_ _) | (with_reducible refine grow_set ?_ (by first | exact Nat.le_refl _ | (simp; done) | (simp; omega) | omega) _) | (with_reducible refine grow_drewN ?_ _) | (with_reducible refine grow_drew ?_) | (with_reducible refine grow_step ?_ (by assumption)) | (with_reducible refine grow_base ?_ (by assumption)))), BB9, BW9⟩
  case round =>
    obtain ⟨k, V, hk, rfl, rfl, HV, hbr, BBr, BWr⟩ := hrel
    by_cases hE : E2 = 0
    · have tE : (E2 == 0) = true := by simp [hE]
      by_cases hlt : k < 8
      · obtain ⟨m1, m2⟩ := HMK.out hE
        have hu0 := BWr.out.at_ (xs := [y0, y1, y2, y3, y4, y5, y6, y7]) k hlt
        have hv0 := BBr.out.at_ (xs := [x0, x1, x2, x3, x4, x5, x6, x7]) k hlt
        obtain ⟨u, hu⟩ : ∃ u, ([y0, y1, y2, y3, y4, y5, y6, y7]).getD k 0 = u := ⟨_, rfl⟩
        obtain ⟨v, hv⟩ : ∃ v, ([x0, x1, x2, x3, x4, x5, x6, x7]).getD k 0 = v := ⟨_, rfl⟩
        have hs := alikeK_succ [y0, y1, y2, y3, y4, y5, y6, y7] [x0, x1, x2, x3, x4, x5, x6, x7] m k
        rw [hu, hv] at hs
        rw [hu] at hu0
        rw [hv] at hv0
        have HS := Lib.hid hs
        have HE0 := Lib.hid hE
        have gk : (k : Int) < 8 := by omega
        have lB := BBr.out.lt
        have lW := BWr.out.lt
        clear hs hu hv hE
        cases hbit : bitM m k
        · have HV2 : Hid (V = (decide (E2 = 0) && alikeK [y0, y1, y2, y3, y4, y5, y6, y7] [x0, x1, x2, x3, x4, x5, x6, x7] m (k + 1))) := Lib.hid (by rw [HS.out, hbit, HV.out]; simp)
          go_wp2_with (go_at_call 44; refine (rAsks_any _ _ _ m1 m2 (by omega) (by omega)).mono ?_; rintro e w' ⟨rfl, rfl⟩; rw [Int.toNat_natCast, hbit])
          go_quiet (fail)
          go_wp2_with fail
          go_roundw
          case rel => exact ⟨k + 1, V, by omega, by go_num, rfl, HV2, (by repeat (first | (with_reducible exact grow_refl _) | (with_reducible assumption) | (with_reducible refine grow_alloc ?_ _) | (with_reducible refine grow_set ?_ (by first | exact Nat.le_refl _ | (simp; done) | (simp; omega) | omega) _) | (with_reducible refine grow_drewN ?_ _) | (with_reducible refine grow_drew ?_) | (with_reducible refine grow_step ?_ (by assumption)) | (with_reducible refine grow_base ?_ (by assumption)))), Lib.hid (BBr.out.below (grow_drewN (grow_refl _) _)), Lib.hid (BWr.out.below (grow_drewN (grow_refl _) _))⟩
          case measure => simp [intOf]; omega
        · by_cases huv : u = v
          · have t : (u != v) = false := by simp [huv]
            have HV2 : Hid (V = (decide (E2 = 0) && alikeK [y0, y1, y2, y3, y4, y5, y6, y7] [x0, x1, x2, x3, x4, x5, x6, x7] m (k + 1))) := Lib.hid (by rw [HS.out, hbit, HV.out, huv]; simp)
            clear huv
            go_wp2_with (go_at_call 44; refine (rAsks_any _ _ _ m1 m2 (by omega) (by omega)).mono ?_; rintro e w' ⟨rfl, rfl⟩; rw [Int.toNat_natCast, hbit])
            go_quiet (fail)
            go_wp2_with fail
            go_roundw
            case rel => exact ⟨k + 1, V, by omega, by go_num, rfl, HV2, (by repeat (first | (with_reducible exact grow_refl _) | (with_reducible assumption) | (with_reducible refine grow_alloc ?_ _) | (with_reducible refine grow_set ?_ (by first | exact Nat.le_refl _ | (simp; done) | (simp; omega) | omega) _) | (with_reducible refine grow_drewN ?_ _) | (with_reducible refine grow_drew ?_) | (with_reducible refine grow_step ?_ (by assumption)) | (with_reducible refine grow_base ?_ (by assumption)))), Lib.hid (BBr.out.below (grow_drewN (grow_refl _) _)), Lib.hid (BWr.out.below (grow_drewN (grow_refl _) _))⟩
            case measure => simp [intOf]; omega
          · have t : (u != v) = true := by simp [huv]
            have HV2 : Hid (false = (decide (E2 = 0) && alikeK [y0, y1, y2, y3, y4, y5, y6, y7] [x0, x1, x2, x3, x4, x5, x6, x7] m (k + 1))) := Lib.hid (by rw [HS.out, hbit, show (u == v) = false from by simp [huv]]; simp)
            clear huv
            go_wp2_with (go_at_call 44; refine (rAsks_any _ _ _ m1 m2 (by omega) (by omega)).mono ?_; rintro e w' ⟨rfl, rfl⟩; rw [Int.toNat_natCast, hbit])
            go_quiet (fail)
            go_wp2_with fail
            go_roundw
            case rel => exact ⟨k + 1, false, by omega, by go_num, rfl, HV2, (by repeat (first | (with_reducible exact grow_refl _) | (with_reducible assumption) | (with_reducible refine grow_alloc ?_ _) | (with_reducible refine grow_set ?_ (by first | exact Nat.le_refl _ | (simp; done) | (simp; omega) | omega) _) | (with_reducible refine grow_drewN ?_ _) | (with_reducible refine grow_drew ?_) | (with_reducible refine grow_step ?_ (by assumption)) | (with_reducible refine grow_base ?_ (by assumption)))), Lib.hid (BBr.out.below (grow_drewN (grow_refl _) _)), Lib.hid (BWr.out.below (grow_drewN (grow_refl _) _))⟩
            case measure => simp [intOf]; omega
      · have HF : Hid (V = matB es [x0, x1, x2, x3, x4, x5, x6, x7] m) := Lib.hid (by rw [mat_alike, HZ.out, HE2.out, HV.out, show k = 8 from by omega])
        clear hE
        have cB := BBr.out.cell
        have lB := BBr.out.lt
        go_wp2_with fail
        clear cB
        refine (match_any A c es x0 x1 x2 x3 x4 x5 x6 x7 m _ (HA.out.below (by repeat (first | (with_reducible exact grow_refl _) | (with_reducible assumption) | (with_reducible refine grow_alloc ?_ _) | (with_reducible refine grow_set ?_ (by first | exact Nat.le_refl _ | (simp; done) | (simp; omega) | omega) _) | (with_reducible refine grow_drewN ?_ _) | (with_reducible refine grow_drew ?_) | (with_reducible refine grow_step ?_ (by assumption)) | (with_reducible refine grow_base ?_ (by assumption))))) (by omega)).mono ?_
        rintro e w10 ⟨rfl, hb10⟩
        rw [HE2.out, ← HF.out]
        go_wp2_with fail
        refine (error_any _ _ _ (HG.out.below (by repeat (first | (with_reducible exact grow_refl _) | (with_reducible assumption) | (with_reducible refine grow_alloc ?_ _) | (with_reducible refine grow_set ?_ (by first | exact Nat.le_refl _ | (simp; done) | (simp; omega) | omega) _) | (with_reducible refine grow_drewN ?_ _) | (with_reducible refine grow_drew ?_) | (with_reducible refine grow_step ?_ (by assumption)) | (with_reducible refine grow_base ?_ (by assumption))))) iE2).mono ?_
        rintro e w11 ⟨rfl, hb11⟩
        go_wp2_with fail
        go_ret
        exact ⟨rfl, (by repeat (first | (with_reducible exact grow_refl _) | (with_reducible assumption) | (with_reducible refine grow_alloc ?_ _) | (with_reducible refine grow_set ?_ (by first | exact Nat.le_refl _ | (simp; done) | (simp; omega) | omega) _) | (with_reducible refine grow_drewN ?_ _) | (with_reducible refine grow_drew ?_) | (with_reducible refine grow_step ?_ (by assumption)) | (with_reducible refine grow_base ?_ (by assumption))))⟩
    · have tE : (E2 == 0) = false := by simpa using hE
      have HF : Hid (V = matB es [x0, x1, x2, x3, x4, x5, x6, x7] m) := Lib.hid (by rw [mat_alike, HZ.out, HE2.out, HV.out]; simp [hE])
      clear hE
      by_cases hlt : k < 8
      · have cB := BBr.out.cell
        have lB := BBr.out.lt
        go_wp2_with fail
        clear cB
        refine (match_any A c es x0 x1 x2 x3 x4 x5 x6 x7 m _ (HA.out.below (by repeat (first | (with_reducible exact grow_refl _) | (with_reducible assumption) | (with_reducible refine grow_alloc ?_ _) | (with_reducible refine grow_set ?_ (by first | exact Nat.le_refl _ | (simp; done) | (simp; omega) | omega) _) | (with_reducible refine grow_drewN ?_ _) | (with_reducible refine grow_drew ?_) | (with_reducible refine grow_step ?_ (by assumption)) | (with_reducible refine grow_base ?_ (by assumption))))) (by omega)).mono ?_
        rintro e w10 ⟨rfl, hb10⟩
        rw [HE2.out, ← HF.out]
        go_wp2_with fail
        refine (error_any _ _ _ (HG.out.below (by repeat (first | (with_reducible exact grow_refl _) | (with_reducible assumption) | (with_reducible refine grow_alloc ?_ _) | (with_reducible refine grow_set ?_ (by first | exact Nat.le_refl _ | (simp; done) | (simp; omega) | omega) _) | (with_reducible refine grow_drewN ?_ _) | (with_reducible refine grow_drew ?_) | (with_reducible refine grow_step ?_ (by assumption)) | (with_reducible refine grow_base ?_ (by assumption))))) iE2).mono ?_
        rintro e w11 ⟨rfl, hb11⟩
        go_wp2_with fail
        go_ret
        exact ⟨rfl, (by repeat (first | (with_reducible exact grow_refl _) | (with_reducible assumption) | (with_reducible refine grow_alloc ?_ _) | (with_reducible refine grow_set ?_ (by first | exact Nat.le_refl _ | (simp; done) | (simp; omega) | omega) _) | (with_reducible refine grow_drewN ?_ _) | (with_reducible refine grow_drew ?_) | (with_reducible refine grow_step ?_ (by assumption)) | (with_reducible refine grow_base ?_ (by assumption))))⟩
      · have cB := BBr.out.cell
        have lB := BBr.out.lt
        go_wp2_with fail
        clear cB
        refine (match_any A c es x0 x1 x2 x3 x4 x5 x6 x7 m _ (HA.out.below (by repeat (first | (with_reducible exact grow_refl _) | (with_reducible assumption) | (with_reducible refine grow_alloc ?_ _) | (with_reducible refine grow_set ?_ (by first | exact Nat.le_refl _ | (simp; done) | (simp; omega) | omega) _) | (with_reducible refine grow_drewN ?_ _) | (with_reducible refine grow_drew ?_) | (with_reducible refine grow_step ?_ (by assumption)) | (with_reducible refine grow_base ?_ (by assumption))))) (by omega)).mono ?_
        rintro e w10 ⟨rfl, hb10⟩
        rw [HE2.out, ← HF.out]
        go_wp2_with fail
        refine (error_any _ _ _ (HG.out.below (by repeat (first | (with_reducible exact grow_refl _) | (with_reducible assumption) | (with_reducible refine grow_alloc ?_ _) | (with_reducible refine grow_set ?_ (by first | exact Nat.le_refl _ | (simp; done) | (simp; omega) | omega) _) | (with_reducible refine grow_drewN ?_ _) | (with_reducible refine grow_drew ?_) | (with_reducible refine grow_step ?_ (by assumption)) | (with_reducible refine grow_base ?_ (by assumption))))) iE2).mono ?_
        rintro e w11 ⟨rfl, hb11⟩
        go_wp2_with fail
        go_ret
        exact ⟨rfl, (by repeat (first | (with_reducible exact grow_refl _) | (with_reducible assumption) | (with_reducible refine grow_alloc ?_ _) | (with_reducible refine grow_set ?_ (by first | exact Nat.le_refl _ | (simp; done) | (simp; omega) | omega) _) | (with_reducible refine grow_drewN ?_ _) | (with_reducible refine grow_drew ?_) | (with_reducible refine grow_step ?_ (by assumption)) | (with_reducible refine grow_base ?_ (by assumption))))⟩

set_option maxRecDepth 100000 in
theorem eventTells_walks (H : Type) (enc : TypeId × Value → H) : WalksD enc Tryd.prog Door 9 Tryd.f9 := by
  intro W base args ds p hval hA hlt hsz hsh hdoor
  have hsz0 := hsz
  rw [Tryd.params9] at hA hval
  obtain ⟨v0, vs0, d0, ds0, p0, q0, hargs, rfl, rfl, h0, r0⟩ := trodAll_cons hA
  obtain ⟨v1, vs1, d1, ds1, p1, q1, rfl, rfl, rfl, h1, r1⟩ := trodAll_cons r0
  obtain ⟨v2, vs2, d2, ds2, p2, q2, rfl, rfl, rfl, h2, r2⟩ := trodAll_cons r1
  obtain ⟨rfl, rfl, rfl⟩ := trodAll_nil r2
  obtain rfl : args = #[v0, v1, v2] := by cases args; simp_all
  obtain ⟨A0, a0, c0, rfl, w0, z0, y0⟩ := op_evs (hval 0 78 v0 rfl rfl) h0 (fun x hx => hlt x (by simp [hx])) (w_each hsz 0 78 _ (by rw [Tryd.params9]; rfl) rfl)
  obtain ⟨x10, x11, x12, x13, x14, x15, x16, x17, rfl, i10, i11, i12, i13, i14, i15, i16, i17⟩ := op_bank (hval 1 47 v1 rfl rfl)
  obtain ⟨a2, rfl, w2⟩ := op_int (hval 2 3 v2 rfl rfl) h2
  exact eventTells_walk W A0 a0 c0 x10 x11 x12 x13 x14 x15 x16 x17 a2 w0 z0 y0 w2 hdoor

set_option maxRecDepth 100000 in
theorem eventTells_lifted (os : Os) (started : os.Started) (H : Type) (enc : TypeId × Value → H) :
    ReturnsInHanded {} Tryd.checked os 9 .any (fun w args => (Rows.eventTellsSpec.pre enc Tryd.checked.prog Tryd.f9 [] false w args ∧ laidMetH Tryd.checked.prog LaidD w) ∧ sizedMet enc Tryd.checked.prog Tryd.f9 (OpenSpec.ofChange Rows.eventTellsSpec) false w args) (Rows.eventTellsSpec.post enc Tryd.checked.prog Tryd.f9 false true false false) :=
  returns_of_walkD (C := Tryd.checked) (s := Rows.eventTellsSpec) (L := LaidD) (D := Door) own started (by kernel_rfl) Tryd.func9
    (ChangeSpec.witness_at (enc := enc) (C := Tryd.checked) (os := os) (X := fun w _ => laidMetH Tryd.prog LaidD w) false (laidWorld os) #[.slice none 0 0, .agg #[.int .i64 0, .int .i64 0, .int .i64 0, .int .i64 0, .int .i64 0, .int .i64 0, .int .i64 0, .int .i64 0], .int .i64 0] 8 rfl (by kernel_rfl) (by kernel_rfl) (by kernel_rfl) (by kernel_rfl) (by kernel_rfl) (laidWorld_met os _))
    (fun W h => door_of_laid h) laidOut (by kernel_rfl) rfl Tryd.underlying4 rfl (fun ds h => by match ds, h with | [_, _, _], _ => rfl) (eventTells_walks H enc)

theorem eventTells_bare : Rows.EventTellsSaid :=
  OpenClaim.holds_of_wide 9 Tryd.f9 rfl rfl rfl rfl rfl rfl rfl ⟨rfl, rfl, rfl, rfl, rfl⟩ rfl rfl rfl rfl rfl (by kernel_rfl) Tryd.func9 (by kernel_rfl)
    (of_decide_eq_true (by kernel_rfl)) (by unfold Func.isWrapper; rw [if_neg (of_decide_eq_false (by kernel_rfl))]; exact ⟨rfl, rfl⟩)
    (fun os started H enc _ => eventTells_lifted os started H enc)

theorem eventTells_holds : Rows.EventTellsCardSaid :=
  Claim7.holds_tied_plain_at .later [] [.handle] true Rows.eventTellsCard.stood.harness true
    eventTells_bare (fun _ h => by cases h) (by kernel_rfl) (fun _ h => by cases h) eventTells_row_tie rfl ⟨rfl, rfl⟩ (by kernel_rfl) rfl
    (fun f fn hf hfn => by
      obtain rfl : f = 9 := Option.some.inj ((show Tryd.prog.funcNamed "bootstair/stairlaw2.EventTells" = some 9 by kernel_rfl).symm.trans hf) |>.symm
      obtain rfl : fn = Tryd.f9 := (Option.some.inj (Tryd.func9.symm.trans hfn)).symm
      exact ⟨by kernel_rfl, fun j t ht => by
        have hm : t ∈ Tryd.f9.params.toList := by simpa using Array.mem_of_getElem? ht
        have hall : (Tryd.f9.params.toList.all fun u => !Tryd.prog.wantsStandIn u) = true := by kernel_rfl
        exact (show Tryd.prog.wantsStandIn t = false by simpa using List.all_eq_true.1 hall t hm)⟩)
    (by kernel_rfl)

end Go.Proofs.YtebecndmlgolpaaDoor
