/- The reference's May and Do of an update. -/
import Derived.Test.YtflhbnaocognlaaGreatDoorRows
import Derived.Test.YtflhbnaocognlaaGreatDoorNum
import Derived.Test.YtflhbnaocognlaaGreatDoorBase
import Derived.Test.YtflhbnaocognlaaGreatDoorCert
import Derived.Test.YtflhbnaocognlaaGreatDoorImg
import Derived.Test.YtflhbnaocognlaaGreatDoorImg2
import Derived.Test.YtflhbnaocognlaaGreatDoorSign
import Derived.Test.YtflhbnaocognlaaGreatDoorRefI
import Derived.Test.YtflhbnaocognlaaGreatDoorRefK2
import Derived.Test.YtflhbnaocognlaaGreatDoorRefS2
import Derived.Test.YtflhbnaocognlaaGreatDoorFoot
import Derived.Test.YtflhbnaocognlaaGreatDoorSlot
import Derived.Test.YtflhbnaocognlaaGreatDoorRSlot
import Derived.Test.YtflhbnaocognlaaGreatDoorSInv
import Derived.Test.YtflhbnaocognlaaGreatDoorCntP
import Derived.Test.YtflhbnaocognlaaGreatDoorCntR
import Derived.Test.YtflhbnaocognlaaGreatDoorUpdP
import Derived.Test.YtflhbnaocognlaaGreatDoorQuietC
import Derived.WalkKit
import Derived.WalkSpells
import Derived.Lib.Hide
import Derived.Deep.DeepCutAuto
import Derived.Deep.RegionHeld3
import Derived.Deep.QuietTactic
import Derived.BigQuiet
import Derived.RegionTactic
import Derived.BigRegion
namespace Go.Proofs.YtflhbnaocognlaaGreatDoor
open Go.RowKit
set_option maxRecDepth 100000
set_option linter.unusedSimpArgs false
set_option linter.unusedVariables false

set_option maxHeartbeats 4000000 in
theorem rUpdMay_any (root : Int) (A : Option Addr) (c : Nat) (cs : List (Int × Int × Int)) (ls : List Cnt) (on : ByteArray) (ov : Int) (oc : ByteArray) (op oa : Int) (zn : ByteArray) (zv : Int) (zc : ByteArray) (zp za : Int) (g : Nat) (w : World) (hA : CertsAt w A cs) (hl : cs.length ≤ 100000000000000) (hR : RCnt w g ls) (h12 : ls.length ≤ 12)
    (h1 : on.size ≤ 140737488351232) (h2 : oc.size ≤ 140737488351232) (h3 : zn.size ≤ 140737488351232) (h4 : zc.size ≤ 140737488351232) :
    Calls Tryz.prog 12 #[.int .i64 root, .slice A cs.length c, .pointer (some ⟨g, 0, none⟩), .agg #[.string on, .int .i64 ov, .string oc, .int .i64 op, .int .i64 oa], .agg #[.string zn, .int .i64 zv, .string zc, .int .i64 zp, .int .i64 za]] w fun e w' => e = .returned (.int .i64 (updE root cs ls (on, ov, oc, op, oa) (zn, zv, zc, zp, za))) ∧ Below w.heap.size w w' := by
  obtain ⟨⟨q, E1⟩, hq⟩ : ∃ t, certLast root cs = t := ⟨_, rfl⟩
  have HCL := Lib.hid (fun w h => rLast_any root A c cs w h (by omega))
  rw [hq] at HCL
  have HA := Lib.hid hA
  have HR := Lib.hid hR
  have HQ := Lib.hid hq
  have HO0 := Lib.hid (Box.new w 30 #[.string on, .int .i64 ov, .string oc, .int .i64 op, .int .i64 oa])
  have hz0 := Box.new (w.alloc (.cells #[.string on, .int .i64 ov, .string oc, .int .i64 op, .int .i64 oa] 30)) 30 #[.string zn, .int .i64 zv, .string zc, .int .i64 zp, .int .i64 za]
  have e2 : (w.alloc (.cells #[.string on, .int .i64 ov, .string oc, .int .i64 op, .int .i64 oa] 30)).heap.size = w.heap.size + 1 := by simp
  rw [e2] at hz0
  have HZ0 := Lib.hid hz0
  have HO1 := Lib.hid (HO0.out.alloc_ (.cells #[.string zn, .int .i64 zv, .string zc, .int .i64 zp, .int .i64 za] 30))
  clear hA hR hq hz0 e2 HO0
  by_cases h0 : E1 = 0
  rotate_left
  · have HU : Hid (updE root cs ls (on, ov, oc, op, oa) (zn, zv, zc, zp, za) = E1) := Lib.hid (by unfold updE; rw [HQ.out]; simp [h0])
    have t : (E1 == 0) = false := by simp [h0]
    go_enter Tryz.func12, Tryz.ntmps12
    go_wp2_with fail
    refine (HCL.out _ (HA.out.below (by repeat (first | (with_reducible exact grow_refl _) | (with_reducible assumption) | (with_reducible refine grow_alloc ?_ _) | (with_reducible refine grow_set ?_ (by first | exact Nat.le_refl _ | (simp; done) | (simp; omega) | omega) _) | (with_reducible refine grow_drewN ?_ _) | (with_reducible refine grow_drew ?_) | (with_reducible refine grow_step ?_ (by assumption)) | (with_reducible refine grow_base ?_ (by assumption)))))).mono ?_
    rintro e w1 ⟨rfl, hb1⟩
    simp only
    go_wp2_with fail
    go_ret
    exact ⟨by rw [HU.out]; rfl, (by repeat (first | (with_reducible exact grow_refl _) | (with_reducible assumption) | (with_reducible refine grow_alloc ?_ _) | (with_reducible refine grow_set ?_ (by first | exact Nat.le_refl _ | (simp; done) | (simp; omega) | omega) _) | (with_reducible refine grow_drewN ?_ _) | (with_reducible refine grow_drew ?_) | (with_reducible refine grow_step ?_ (by assumption)) | (with_reducible refine grow_base ?_ (by assumption))))⟩
  subst h0
  obtain ⟨E2, hE2⟩ : ∃ E2, signE q zn zv zc zp za = E2 := ⟨_, rfl⟩
  have HE2 := Lib.hid hE2
  have HU1 : Hid (updE root cs ls (on, ov, oc, op, oa) (zn, zv, zc, zp, za) = if E2 = 0 then upE2 ls (on, ov, oc, op, oa) (zn, zv, zc, zp, za) else E2) := Lib.hid (by unfold updE; rw [HQ.out]; simp only [if_true]; rw [hE2])
  have HS := Lib.hid (fun w => rSealed_any q zn zv zc zp za w (by omega) (by omega))
  rw [hE2] at HS
  clear hE2
  go_enter Tryz.func12, Tryz.ntmps12
  go_wp2_with fail
  refine (HCL.out _ (HA.out.below (by repeat (first | (with_reducible exact grow_refl _) | (with_reducible assumption) | (with_reducible refine grow_alloc ?_ _) | (with_reducible refine grow_set ?_ (by first | exact Nat.le_refl _ | (simp; done) | (simp; omega) | omega) _) | (with_reducible refine grow_drewN ?_ _) | (with_reducible refine grow_drew ?_) | (with_reducible refine grow_step ?_ (by assumption)) | (with_reducible refine grow_base ?_ (by assumption)))))).mono ?_
  rintro e w1 ⟨rfl, hb1⟩
  simp only
  have HO2 := Lib.hid (HO1.out.below hb1)
  have HZ2 := Lib.hid (HZ0.out.below hb1)
  have hbw1 : Below w.heap.size w w1 := grow_step (grow_alloc (grow_alloc (grow_refl _) _) _) hb1
  have cZ := HZ2.out.cell
  have lZ := HZ2.out.lt
  clear hb1 HO1 HZ0 HCL
  go_wp2_with fail
  refine (HS.out _).mono ?_
  rintro e w2 ⟨rfl, hb2⟩
  have HO3 := Lib.hid (HO2.out.below hb2)
  have HZ3 := Lib.hid (HZ2.out.below hb2)
  have hbw2 : Below w.heap.size w w2 := grow_step hbw1 hb2
  clear hb2 HO2 HZ2 cZ lZ hbw1
  by_cases h0 : E2 = 0
  rotate_left
  · have HU : Hid (updE root cs ls (on, ov, oc, op, oa) (zn, zv, zc, zp, za) = E2) := Lib.hid (by rw [HU1.out, if_neg h0])
    have t : (E2 == 0) = false := by simp [h0]
    clear h0
    go_wp2_with fail
    go_ret
    exact ⟨by rw [HU.out]; rfl, (by repeat (first | (with_reducible exact grow_refl _) | (with_reducible assumption) | (with_reducible refine grow_alloc ?_ _) | (with_reducible refine grow_set ?_ (by first | exact Nat.le_refl _ | (simp; done) | (simp; omega) | omega) _) | (with_reducible refine grow_drewN ?_ _) | (with_reducible refine grow_drew ?_) | (with_reducible refine grow_step ?_ (by assumption)) | (with_reducible refine grow_base ?_ (by assumption))))⟩
  subst h0
  obtain ⟨E3, hE3⟩ : ∃ E3, imgE on ov oc = E3 := ⟨_, rfl⟩
  have HI := Lib.hid (fun w => rImage_any on ov oc w (by omega) (by omega))
  rw [hE3] at HI
  have HU2 : Hid (updE root cs ls (on, ov, oc, op, oa) (zn, zv, zc, zp, za) = if E3 = 0 then (if zn.data.toList = on.data.toList then (if zv ≤ ov then 9 else mayL ls zn zv) else 3) else E3) := Lib.hid (by
    rw [HU1.out]
    simp only [if_true]
    unfold upE2
    simp only [hE3])
  have cO := HO3.out.cell
  have lO := HO3.out.lt
  clear hE3
  go_wp2_with fail
  refine (HI.out _).mono ?_
  rintro e w3 ⟨rfl, hb3⟩
  have HO4 := Lib.hid (HO3.out.below hb3)
  have HZ4 := Lib.hid (HZ3.out.below hb3)
  have hbw3 : Below w.heap.size w w3 := grow_step hbw2 hb3
  clear hb3 HO3 HZ3 cO lO hbw2
  by_cases h0 : E3 = 0
  rotate_left
  · have HU : Hid (updE root cs ls (on, ov, oc, op, oa) (zn, zv, zc, zp, za) = E3) := Lib.hid (by rw [HU2.out, if_neg h0])
    have t : (E3 == 0) = false := by simp [h0]
    clear h0
    go_wp2_with fail
    go_ret
    exact ⟨by rw [HU.out]; rfl, (by repeat (first | (with_reducible exact grow_refl _) | (with_reducible assumption) | (with_reducible refine grow_alloc ?_ _) | (with_reducible refine grow_set ?_ (by first | exact Nat.le_refl _ | (simp; done) | (simp; omega) | omega) _) | (with_reducible refine grow_drewN ?_ _) | (with_reducible refine grow_drew ?_) | (with_reducible refine grow_step ?_ (by assumption)) | (with_reducible refine grow_base ?_ (by assumption))))⟩
  subst h0
  have cO := HO4.out.cell
  have lO := HO4.out.lt
  have cZ := HZ4.out.cell
  have lZ := HZ4.out.lt
  by_cases hq : zn.data.toList = on.data.toList
  rotate_left
  · have HU : Hid (updE root cs ls (on, ov, oc, op, oa) (zn, zv, zc, zp, za) = 3) := Lib.hid (by rw [HU2.out]; simp [hq])
    have t : (zn.toList == on.toList) = false := by rw [ByteArray.toList_eq, ByteArray.toList_eq]; simpa using hq
    clear hq
    go_wp2_with fail
    go_ret
    exact ⟨by rw [HU.out]; rfl, (by repeat (first | (with_reducible exact grow_refl _) | (with_reducible assumption) | (with_reducible refine grow_alloc ?_ _) | (with_reducible refine grow_set ?_ (by first | exact Nat.le_refl _ | (simp; done) | (simp; omega) | omega) _) | (with_reducible refine grow_drewN ?_ _) | (with_reducible refine grow_drew ?_) | (with_reducible refine grow_step ?_ (by assumption)) | (with_reducible refine grow_base ?_ (by assumption))))⟩
  have t : (zn.toList == on.toList) = true := by rw [ByteArray.toList_eq, ByteArray.toList_eq, hq]; simp
  by_cases hv : zv ≤ ov
  · have HU : Hid (updE root cs ls (on, ov, oc, op, oa) (zn, zv, zc, zp, za) = 9) := Lib.hid (by rw [HU2.out]; simp [hq, hv])
    clear hq
    go_wp2_with fail
    go_ret
    exact ⟨by rw [HU.out]; rfl, (by repeat (first | (with_reducible exact grow_refl _) | (with_reducible assumption) | (with_reducible refine grow_alloc ?_ _) | (with_reducible refine grow_set ?_ (by first | exact Nat.le_refl _ | (simp; done) | (simp; omega) | omega) _) | (with_reducible refine grow_drewN ?_ _) | (with_reducible refine grow_drew ?_) | (with_reducible refine grow_step ?_ (by assumption)) | (with_reducible refine grow_base ?_ (by assumption))))⟩
  have HU : Hid (updE root cs ls (on, ov, oc, op, oa) (zn, zv, zc, zp, za) = mayL ls zn zv) := Lib.hid (by rw [HU2.out]; simp [hq, hv])
  clear hq
  go_wp2_with fail
  refine (rMay_any g ls zn zv _ (HR.out.below hbw3) (by omega) h12).mono ?_
  rintro e w4 ⟨rfl, rfl⟩
  go_wp2_with fail
  go_ret
  exact ⟨by rw [HU.out]; rfl, (by repeat (first | (with_reducible exact grow_refl _) | (with_reducible assumption) | (with_reducible refine grow_alloc ?_ _) | (with_reducible refine grow_set ?_ (by first | exact Nat.le_refl _ | (simp; done) | (simp; omega) | omega) _) | (with_reducible refine grow_drewN ?_ _) | (with_reducible refine grow_drew ?_) | (with_reducible refine grow_step ?_ (by assumption)) | (with_reducible refine grow_base ?_ (by assumption))))⟩

end Go.Proofs.YtflhbnaocognlaaGreatDoor
