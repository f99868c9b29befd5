/- The reference's May and Do of an update. The reference's Do of an update. -/
import Derived.Test.YtdedllfgeekogaaGreatDoorRows
import Derived.Test.YtdedllfgeekogaaGreatDoorNum
import Derived.Test.YtdedllfgeekogaaGreatDoorBase
import Derived.Test.YtdedllfgeekogaaGreatDoorCert
import Derived.Test.YtdedllfgeekogaaGreatDoorImg
import Derived.Test.YtdedllfgeekogaaGreatDoorImg2
import Derived.Test.YtdedllfgeekogaaGreatDoorSign
import Derived.Test.YtdedllfgeekogaaGreatDoorRefI
import Derived.Test.YtdedllfgeekogaaGreatDoorRefK
import Derived.Test.YtdedllfgeekogaaGreatDoorRefS2
import Derived.Test.YtdedllfgeekogaaGreatDoorFoot
import Derived.Test.YtdedllfgeekogaaGreatDoorSlot
import Derived.Test.YtdedllfgeekogaaGreatDoorRSlot
import Derived.Test.YtdedllfgeekogaaGreatDoorSInv
import Derived.Test.YtdedllfgeekogaaGreatDoorCntP
import Derived.Test.YtdedllfgeekogaaGreatDoorCntR
import Derived.Test.YtdedllfgeekogaaGreatDoorUpdP
import Derived.Test.YtdedllfgeekogaaGreatDoorQuietC
import Derived.WalkKit
import Derived.WalkSpells
import Derived.Lib.Hide
import Derived.Deep.DeepCutAuto
import Derived.Deep.RegionHeld3
import Derived.Deep.QuietTactic
import Derived.BigQuiet
import Derived.RegionTactic
import Derived.BigRegion
namespace Go.Proofs.YtdedllfgeekogaaGreatDoor
open Go.RowKit
set_option maxRecDepth 100000
set_option linter.unusedSimpArgs false
set_option linter.unusedVariables false

set_option maxHeartbeats 4000000 in
theorem rUpdMay_any (root : Int) (A : Option Addr) (c : Nat) (cs : List (Int × Int × Int)) (ls : List Cnt) (on : ByteArray) (ov : Int) (oc : ByteArray) (op oa : Int) (zn : ByteArray) (zv : Int) (zc : ByteArray) (zp za : Int) (g : Nat) (w : World) (hA : CertsAt w A cs) (hl : cs.length ≤ 100000000000000) (hR : RCnt w g ls) (h12 : ls.length ≤ 12)
    (h1 : on.size ≤ 140737488351232) (h2 : oc.size ≤ 140737488351232) (h3 : zn.size ≤ 140737488351232) (h4 : zc.size ≤ 140737488351232) :
    Calls Tryz.prog 68 #[.int .i64 root, .slice A cs.length c, .pointer (some ⟨g, 0, none⟩), .agg #[.string on, .int .i64 ov, .string oc, .int .i64 op, .int .i64 oa], .agg #[.string zn, .int .i64 zv, .string zc, .int .i64 zp, .int .i64 za]] w fun e w' => e = .returned (.int .i64 (updE root cs ls (on, ov, oc, op, oa) (zn, zv, zc, zp, za))) ∧ Below w.heap.size w w' := by
  obtain ⟨⟨q, E1⟩, hq⟩ : ∃ t, certLast root cs = t := ⟨_, rfl⟩
  have HCL := Lib.hid (fun w h => rLast_any root A c cs w h (by omega))
  rw [hq] at HCL
  have HA := Lib.hid hA
  have HR := Lib.hid hR
  have HQ := Lib.hid hq
  have HO0 := Lib.hid (Box.new w 32 #[.string on, .int .i64 ov, .string oc, .int .i64 op, .int .i64 oa])
  have hz0 := Box.new (w.alloc (.cells #[.string on, .int .i64 ov, .string oc, .int .i64 op, .int .i64 oa] 32)) 32 #[.string zn, .int .i64 zv, .string zc, .int .i64 zp, .int .i64 za]
  have e2 : (w.alloc (.cells #[.string on, .int .i64 ov, .string oc, .int .i64 op, .int .i64 oa] 32)).heap.size = w.heap.size + 1 := by simp
  rw [e2] at hz0
  have HZ0 := Lib.hid hz0
  have HO1 := Lib.hid (HO0.out.alloc_ (.cells #[.string zn, .int .i64 zv, .string zc, .int .i64 zp, .int .i64 za] 32))
  clear hA hR hq hz0 e2 HO0
  by_cases h0 : E1 = 0
  rotate_left
  · have HU : Hid (updE root cs ls (on, ov, oc, op, oa) (zn, zv, zc, zp, za) = E1) := Lib.hid (by unfold updE; rw [HQ.out]; simp [h0])
    have t : (E1 == 0) = false := by simp [h0]
    go_enter Tryz.func68, Tryz.ntmps68
    go_wp2_with fail
    refine (HCL.out _ (HA.out.below (by repeat (first | (with_reducible exact grow_refl _) | (with_reducible assumption) | (with_reducible refine grow_alloc ?_ _) | (with_reducible refine grow_set ?_ (by first | exact Nat.le_refl _ | (simp; done) | (simp; omega) | omega) _) | (with_reducible refine grow_drewN ?_ _) | (with_reducible refine grow_drew ?_) | (with_reducible refine grow_step ?_ (by assumption)) | (with_reducible refine grow_base ?_ (by assumption)))))).mono ?_
    rintro e w1 ⟨rfl, hb1⟩
    simp only
    go_wp2_with fail
    go_ret
    exact ⟨by rw [HU.out]; rfl, (by repeat (first | (with_reducible exact grow_refl _) | (with_reducible assumption) | (with_reducible refine grow_alloc ?_ _) | (with_reducible refine grow_set ?_ (by first | exact Nat.le_refl _ | (simp; done) | (simp; omega) | omega) _) | (with_reducible refine grow_drewN ?_ _) | (with_reducible refine grow_drew ?_) | (with_reducible refine grow_step ?_ (by assumption)) | (with_reducible refine grow_base ?_ (by assumption))))⟩
  subst h0
  obtain ⟨E2, hE2⟩ : ∃ E2, signE q zn zv zc zp za = E2 := ⟨_, rfl⟩
  have HE2 := Lib.hid hE2
  have HU1 : Hid (updE root cs ls (on, ov, oc, op, oa) (zn, zv, zc, zp, za) = if E2 = 0 then upE2 ls (on, ov, oc, op, oa) (zn, zv, zc, zp, za) else E2) := Lib.hid (by unfold updE; rw [HQ.out]; simp only [if_true]; rw [hE2])
  have HS := Lib.hid (fun w => rSealed_any q zn zv zc zp za w (by omega) (by omega))
  rw [hE2] at HS
  clear hE2
  go_enter Tryz.func68, Tryz.ntmps68
  go_wp2_with fail
  refine (HCL.out _ (HA.out.below (by repeat (first | (with_reducible exact grow_refl _) | (with_reducible assumption) | (with_reducible refine grow_alloc ?_ _) | (with_reducible refine grow_set ?_ (by first | exact Nat.le_refl _ | (simp; done) | (simp; omega) | omega) _) | (with_reducible refine grow_drewN ?_ _) | (with_reducible refine grow_drew ?_) | (with_reducible refine grow_step ?_ (by assumption)) | (with_reducible refine grow_base ?_ (by assumption)))))).mono ?_
  rintro e w1 ⟨rfl, hb1⟩
  simp only
  have HO2 := Lib.hid (HO1.out.below hb1)
  have HZ2 := Lib.hid (HZ0.out.below hb1)
  have hbw1 : Below w.heap.size w w1 := grow_step (grow_alloc (grow_alloc (grow_refl _) _) _) hb1
  have cZ := HZ2.out.cell
  have lZ := HZ2.out.lt
  clear hb1 HO1 HZ0 HCL
  go_wp2_with fail
  refine (HS.out _).mono ?_
  rintro e w2 ⟨rfl, hb2⟩
  have HO3 := Lib.hid (HO2.out.below hb2)
  have HZ3 := Lib.hid (HZ2.out.below hb2)
  have hbw2 : Below w.heap.size w w2 := grow_step hbw1 hb2
  clear hb2 HO2 HZ2 cZ lZ hbw1
  by_cases h0 : E2 = 0
  rotate_left
  · have HU : Hid (updE root cs ls (on, ov, oc, op, oa) (zn, zv, zc, zp, za) = E2) := Lib.hid (by rw [HU1.out, if_neg h0])
    have t : (E2 == 0) = false := by simp [h0]
    clear h0
    go_wp2_with fail
    go_ret
    exact ⟨by rw [HU.out]; rfl, (by repeat (first | (with_reducible exact grow_refl _) | (with_reducible assumption) | (with_reducible refine grow_alloc ?_ _) | (with_reducible refine grow_set ?_ (by first | exact Nat.le_refl _ | (simp; done) | (simp; omega) | omega) _) | (with_reducible refine grow_drewN ?_ _) | (with_reducible refine grow_drew ?_) | (with_reducible refine grow_step ?_ (by assumption)) | (with_reducible refine grow_base ?_ (by assumption))))⟩
  subst h0
  obtain ⟨E3, hE3⟩ : ∃ E3, imgE on ov oc = E3 := ⟨_, rfl⟩
  have HI := Lib.hid (fun w => rImage_any on ov oc w (by omega) (by omega))
  rw [hE3] at HI
  have HU2 : Hid (updE root cs ls (on, ov, oc, op, oa) (zn, zv, zc, zp, za) = if E3 = 0 then (if zn.data.toList = on.data.toList then (if zv ≤ ov then 9 else mayL ls zn zv) else 3) else E3) := Lib.hid (by
    rw [HU1.out]
    simp only [if_true]
    unfold upE2
    simp only [hE3])
  have cO := HO3.out.cell
  have lO := HO3.out.lt
  clear hE3
  go_wp2_with fail
  refine (HI.out _).mono ?_
  rintro e w3 ⟨rfl, hb3⟩
  have HO4 := Lib.hid (HO3.out.below hb3)
  have HZ4 := Lib.hid (HZ3.out.below hb3)
  have hbw3 : Below w.heap.size w w3 := grow_step hbw2 hb3
  clear hb3 HO3 HZ3 cO lO hbw2
  by_cases h0 : E3 = 0
  rotate_left
  · have HU : Hid (updE root cs ls (on, ov, oc, op, oa) (zn, zv, zc, zp, za) = E3) := Lib.hid (by rw [HU2.out, if_neg h0])
    have t : (E3 == 0) = false := by simp [h0]
    clear h0
    go_wp2_with fail
    go_ret
    exact ⟨by rw [HU.out]; rfl, (by repeat (first | (with_reducible exact grow_refl _) | (with_reducible assumption) | (with_reducible refine grow_alloc ?_ _) | (with_reducible refine grow_set ?_ (by first | exact Nat.le_refl _ | (simp; done) | (simp; omega) | omega) _) | (with_reducible refine grow_drewN ?_ _) | (with_reducible refine grow_drew ?_) | (with_reducible refine grow_step ?_ (by assumption)) | (with_reducible refine grow_base ?_ (by assumption))))⟩
  subst h0
  have cO := HO4.out.cell
  have lO := HO4.out.lt
  have cZ := HZ4.out.cell
  have lZ := HZ4.out.lt
  by_cases hq : zn.data.toList = on.data.toList
  rotate_left
  · have HU : Hid (updE root cs ls (on, ov, oc, op, oa) (zn, zv, zc, zp, za) = 3) := Lib.hid (by rw [HU2.out]; simp [hq])
    have t : (zn.toList == on.toList) = false := by rw [ByteArray.toList_eq, ByteArray.toList_eq]; simpa using hq
    clear hq
    go_wp2_with fail
    go_ret
    exact ⟨by rw [HU.out]; rfl, (by repeat (first | (with_reducible exact grow_refl _) | (with_reducible assumption) | (with_reducible refine grow_alloc ?_ _) | (with_reducible refine grow_set ?_ (by first | exact Nat.le_refl _ | (simp; done) | (simp; omega) | omega) _) | (with_reducible refine grow_drewN ?_ _) | (with_reducible refine grow_drew ?_) | (with_reducible refine grow_step ?_ (by assumption)) | (with_reducible refine grow_base ?_ (by assumption))))⟩
  have t : (zn.toList == on.toList) = true := by rw [ByteArray.toList_eq, ByteArray.toList_eq, hq]; simp
  by_cases hv : zv ≤ ov
  · have HU : Hid (updE root cs ls (on, ov, oc, op, oa) (zn, zv, zc, zp, za) = 9) := Lib.hid (by rw [HU2.out]; simp [hq, hv])
    clear hq
    go_wp2_with fail
    go_ret
    exact ⟨by rw [HU.out]; rfl, (by repeat (first | (with_reducible exact grow_refl _) | (with_reducible assumption) | (with_reducible refine grow_alloc ?_ _) | (with_reducible refine grow_set ?_ (by first | exact Nat.le_refl _ | (simp; done) | (simp; omega) | omega) _) | (with_reducible refine grow_drewN ?_ _) | (with_reducible refine grow_drew ?_) | (with_reducible refine grow_step ?_ (by assumption)) | (with_reducible refine grow_base ?_ (by assumption))))⟩
  have HU : Hid (updE root cs ls (on, ov, oc, op, oa) (zn, zv, zc, zp, za) = mayL ls zn zv) := Lib.hid (by rw [HU2.out]; simp [hq, hv])
  clear hq
  go_wp2_with fail
  refine (rMay_any g ls zn zv _ (HR.out.below hbw3) (by omega) h12).mono ?_
  rintro e w4 ⟨rfl, rfl⟩
  go_wp2_with fail
  go_ret
  exact ⟨by rw [HU.out]; rfl, (by repeat (first | (with_reducible exact grow_refl _) | (with_reducible assumption) | (with_reducible refine grow_alloc ?_ _) | (with_reducible refine grow_set ?_ (by first | exact Nat.le_refl _ | (simp; done) | (simp; omega) | omega) _) | (with_reducible refine grow_drewN ?_ _) | (with_reducible refine grow_drew ?_) | (with_reducible refine grow_step ?_ (by assumption)) | (with_reducible refine grow_base ?_ (by assumption))))⟩

end Go.Proofs.YtdedllfgeekogaaGreatDoor

namespace Go.Proofs.YtdedllfgeekogaaGreatDoor
open Go.RowKit
set_option maxRecDepth 100000
set_option linter.unusedSimpArgs false
set_option linter.unusedVariables false

/-- The reference's Counts at g, their list below u. -/
def RC2 (w : World) (g u : Nat) (ls : List Cnt) : Prop :=
  ∃ (A : Option Addr) (c : Nat), Box w g 70 #[.slice A ls.length c] ∧ OwnC w (g + 1) 126 2 A c ls.length (cntCells ls) ∧ (∀ a, A = some a → a.block < u) ∧ g < u
theorem RC2.cnt {w : World} {g u : Nat} {ls : List Cnt} (h : RC2 w g u ls) : RCnt w g ls := by
  obtain ⟨A, c, h1, h2, _⟩ := h
  exact ⟨A, c, h1, h2⟩
theorem RC2.of {w : World} {g : Nat} {ls : List Cnt} (h : RCnt w g ls) : RC2 w g w.heap.size ls := by
  obtain ⟨A, c, h1, h2⟩ := h
  exact ⟨A, c, h1, h2, fun a ha => (h2.at_ a ha).2, h1.lt⟩
theorem RC2.but {S : Nat → Prop} {w w' : World} {g u : Nat} {ls : List Cnt} (h : RC2 w g u ls) (k : But S w w') (hn : ∀ j, j < u → ¬ S j) : RC2 w' g u ls := by
  obtain ⟨A, c, h1, h2, h3, h4⟩ := h
  exact ⟨A, c, h1.but k (hn g h4), h2.but k (fun a ha => hn _ (h3 a ha)), h3, h4⟩
theorem RC2.below {w w' : World} {g u : Nat} {ls : List Cnt} (h : RC2 w g u ls) (hb : Below w.heap.size w w') : RC2 w' g u ls := h.but (below_but hb (fun _ => False)) (fun _ _ h => h)

theorem rsafe0 (g : Nat) (s : Slts) (w : World) (hB : Box w g 122 s.cs) (hr : s.safe = false) : Calls Tryz.prog 38 #[.pointer (some ⟨g, 0, none⟩)] w fun e w' => e = .returned (.int .i64 0) ∧ Below w.heap.size w w' := rsafe_at g s false w hB hr
theorem rsafe1 (g : Nat) (s : Slts) (w : World) (hB : Box w g 122 s.cs) (hr : s.safe = true) : Calls Tryz.prog 38 #[.pointer (some ⟨g, 0, none⟩)] w fun e w' => e = .returned (.int .i64 1) ∧ Below w.heap.size w w' := rsafe_at g s true w hB hr
/-- What the reference's Do keeps till it puts. -/
def KeepU (w0 : World) (g gc u : Nat) (s : Slts) (ls : List Cnt) (z : Array Value) (w : World) : Prop := Box w g 122 s.cs ∧ RC2 w gc u ls ∧ Box w w0.heap.size 32 z ∧ Below w0.heap.size w0 w
theorem KeepU.below {w0 : World} {g gc u : Nat} {s : Slts} {ls : List Cnt} {z : Array Value} {w w' : World} (h : KeepU w0 g gc u s ls z w) (hb : Below w.heap.size w w') : KeepU w0 g gc u s ls z w' := ⟨h.1.below hb, h.2.1.below hb, h.2.2.1.below hb, grow_step h.2.2.2 hb⟩

set_option maxHeartbeats 4000000 in
theorem rUpdDo_any (root : Int) (A : Option Addr) (c : Nat) (cs : List (Int × Int × Int)) (ls : List Cnt) (zn : ByteArray) (zv : Int) (zc : ByteArray) (zp za : Int) (g gc u : Nat) (s : Slts) (w : World) (hA : CertsAt w A cs) (hl : cs.length ≤ 100000000000000) (hR : RC2 w gc u ls) (h12 : ls.length ≤ 12) (hB : Box w g 122 s.cs)
    (hs : Inv s) (h3 : zn.size ≤ 140737488351232) (h4 : zc.size ≤ 140737488351232) :
    Calls Tryz.prog 24 #[.int .i64 root, .slice A cs.length c, .pointer (some ⟨gc, 0, none⟩), .pointer (some ⟨g, 0, none⟩), .agg #[.string zn, .int .i64 zv, .string zc, .int .i64 zp, .int .i64 za]] w fun e w' => e = .returned (.int .i64 (doE root cs ls s (zn, zv, zc, zp, za))) ∧ Box w' g 122 (doS root cs ls s (zn, zv, zc, zp, za)).cs ∧ But (fun k => k = g) w w' := by
  have ok := hs.at_ s.safe
  obtain ⟨U, hU⟩ : ∃ U, updE root cs ls (s.at_ s.safe).sg (zn, zv, zc, zp, za) = U := ⟨_, rfl⟩
  have HU := Lib.hid hU
  have HPU := Lib.hid (fun w hB => rputC g s zn zv zc zp za w hB h3 h4)
  have HD0 : Hid (U = 0 → doE root cs ls s (zn, zv, zc, zp, za) = putE s zn zv zc ∧ doS root cs ls s (zn, zv, zc, zp, za) = putS s zn zv zc zp za) := Lib.hid (fun h0 => by
    unfold doE doS
    have h := hU.trans h0
    exact ⟨if_pos h, if_pos h⟩)
  have HD1 : Hid (U ≠ 0 → doE root cs ls s (zn, zv, zc, zp, za) = U ∧ doS root cs ls s (zn, zv, zc, zp, za) = s) := Lib.hid (fun h0 => by
    unfold doE doS
    have h : updE root cs ls (s.at_ s.safe).sg (zn, zv, zc, zp, za) ≠ 0 := fun h => h0 (hU.symm.trans h)
    exact ⟨(if_neg h).trans hU, if_neg h⟩)
  have HA := Lib.hid hA
  have HK : Hid (KeepU w g gc u s ls #[.string zn, .int .i64 zv, .string zc, .int .i64 zp, .int .i64 za] (w.alloc (.cells #[.string zn, .int .i64 zv, .string zc, .int .i64 zp, .int .i64 za] 32))) := Lib.hid ⟨hB.alloc_ _, hR.below (grow_alloc (grow_refl _) _), Box.new w 32 #[.string zn, .int .i64 zv, .string zc, .int .i64 zp, .int .i64 za], grow_alloc (grow_refl _) _⟩
  obtain ⟨r, hr⟩ : ∃ r, s.safe = r := ⟨_, rfl⟩
  rw [hr] at hU ok
  have HRS := Lib.hid hr
  obtain ⟨s', hss⟩ : ∃ s', s' = s := ⟨_, rfl⟩
  have HSS := Lib.hid hss
  clear hA hB hR hs hr hss HU
  cases r
  · have HM := Lib.hid (fun w hA hR => rUpdMay_any root A c cs ls s.x.n s.x.v s.x.c s.x.p s.x.a zn zv zc zp za gc w hA hl hR h12 ok.2.2.2.1 ok.2.2.2.2.1 h3 h4)
    have hUU : updE root cs ls (s.x.n, s.x.v, s.x.c, s.x.p, s.x.a) (zn, zv, zc, zp, za) = U := hU
    rw [hUU] at HM
    clear hU hUU ok
    go_enter Tryz.func24, Tryz.ntmps24
    go_wp2_with fail
    refine region_quiet (fun w' => KeepU w g gc u s ls #[.string zn, .int .i64 zv, .string zc, .int .i64 zp, .int .i64 za] w') (by kernel_rfl) (by kernel_rfl) (KeepU.below HK.out (grow_drew (grow_refl _))) ?_
    repeat (go_big_quiet_step (first
      | (intro hC; rfl)
      | (intro hC; go_at_call 38; exact quiet_class (rsafe0 g s _ hC.1 HRS.out) (fun w' hb => hC.below hb))
      | (intro hC; go_at_call 68; exact quiet_class (HM.out _ (HA.out.below hC.2.2.2) hC.2.1.cnt) (fun w' hb => hC.below hb))
      | (intro hC; have e1 := hC.1.cell; have e2 := hC.2.2.1.cell; simp only [Slts.cs] at e1; simp only [e1, e2]; rfl)
      | (intro hC; have e1 := hC.1.cell; have e2 := hC.2.2.1.cell; simp only [Slts.cs] at e1; simp [e1, e2]; try rfl)))
    refine wpQuiet_nil ?_
    intro w1 E1
    have cZ := E1.2.2.1.cell
    have lZ := E1.2.2.1.lt
    have HE1 := Lib.hid E1
    clear E1 HM HK
    by_cases h0 : U = 0
    · have hd := HD0.out h0
      have HD := Lib.hid hd
      clear hd HD0 HD1
      subst h0
      go_wp2_with fail
      refine (HPU.out _ HE1.out.1).mono ?_
      rintro e w3 ⟨rfl, hB3, hk3⟩
      go_wp2_with fail
      go_ret
      refine ⟨by rw [HD.out.1]; rfl, by rw [HD.out.2]; exact hB3, ?_⟩
      exact (below_but HE1.out.2.2.2 (fun k => k = g)).trans hk3 (fun x _ h => h)
    · have hd := HD1.out h0
      have HD := Lib.hid hd
      have t : (U == 0) = false := by simp [h0]
      clear hd HD0 HD1 h0
      go_wp2_with fail
      go_ret
      exact ⟨by rw [HD.out.1]; rfl, by rw [HD.out.2]; exact HE1.out.1, below_but HE1.out.2.2.2 _⟩
  · have HM := Lib.hid (fun w hA hR => rUpdMay_any root A c cs ls s.y.n s.y.v s.y.c s.y.p s.y.a zn zv zc zp za gc w hA hl hR h12 ok.2.2.2.1 ok.2.2.2.2.1 h3 h4)
    have hUU : updE root cs ls (s.y.n, s.y.v, s.y.c, s.y.p, s.y.a) (zn, zv, zc, zp, za) = U := hU
    rw [hUU] at HM
    clear hU hUU ok
    go_enter Tryz.func24, Tryz.ntmps24
    go_wp2_with fail
    refine region_quiet (fun w' => KeepU w g gc u s ls #[.string zn, .int .i64 zv, .string zc, .int .i64 zp, .int .i64 za] w') (by kernel_rfl) (by kernel_rfl) (KeepU.below HK.out (grow_drew (grow_refl _))) ?_
    repeat (go_big_quiet_step (first
      | (intro hC; rfl)
      | (intro hC; go_at_call 38; exact quiet_class (rsafe1 g s _ hC.1 HRS.out) (fun w' hb => hC.below hb))
      | (intro hC; go_at_call 68; exact quiet_class (HM.out _ (HA.out.below hC.2.2.2) hC.2.1.cnt) (fun w' hb => hC.below hb))
      | (intro hC; have e1 := hC.1.cell; have e2 := hC.2.2.1.cell; simp only [Slts.cs] at e1; simp only [e1, e2]; rfl)
      | (intro hC; have e1 := hC.1.cell; have e2 := hC.2.2.1.cell; simp only [Slts.cs] at e1; simp [e1, e2]; try rfl)))
    refine wpQuiet_nil ?_
    intro w1 E1
    have cZ := E1.2.2.1.cell
    have lZ := E1.2.2.1.lt
    have HE1 := Lib.hid E1
    clear E1 HM HK
    by_cases h0 : U = 0
    · have hd := HD0.out h0
      have HD := Lib.hid hd
      clear hd HD0 HD1
      subst h0
      go_wp2_with fail
      refine (HPU.out _ HE1.out.1).mono ?_
      rintro e w3 ⟨rfl, hB3, hk3⟩
      go_wp2_with fail
      go_ret
      refine ⟨by rw [HD.out.1]; rfl, by rw [HD.out.2]; exact hB3, ?_⟩
      exact (below_but HE1.out.2.2.2 (fun k => k = g)).trans hk3 (fun x _ h => h)
    · have hd := HD1.out h0
      have HD := Lib.hid hd
      have t : (U == 0) = false := by simp [h0]
      clear hd HD0 HD1 h0
      go_wp2_with fail
      go_ret
      exact ⟨by rw [HD.out.1]; rfl, by rw [HD.out.2]; exact HE1.out.1, below_but HE1.out.2.2.2 _⟩

end Go.Proofs.YtdedllfgeekogaaGreatDoor
