/- update: image.Newer, update.May, update.Do, and what the reference says of them. update.Do: what it answers, and what the slots come to. -/
import Derived.Test.YtdedllfgeekogaaGreatDoorRows
import Derived.Test.YtdedllfgeekogaaGreatDoorNum
import Derived.Test.YtdedllfgeekogaaGreatDoorBase
import Derived.Test.YtdedllfgeekogaaGreatDoorCert
import Derived.Test.YtdedllfgeekogaaGreatDoorImg
import Derived.Test.YtdedllfgeekogaaGreatDoorImg2
import Derived.Test.YtdedllfgeekogaaGreatDoorSign
import Derived.Test.YtdedllfgeekogaaGreatDoorFoot
import Derived.Test.YtdedllfgeekogaaGreatDoorLiftT
import Derived.Test.YtdedllfgeekogaaGreatDoorSlot
import Derived.Test.YtdedllfgeekogaaGreatDoorSInv
import Derived.Test.YtdedllfgeekogaaGreatDoorCntC
import Derived.Test.YtdedllfgeekogaaGreatDoorUpdP
import Derived.WalkKit
import Derived.WalkSpells
import Derived.Lib.Hide
import Derived.Deep.QuietTactic
import Derived.BigQuiet
import Derived.RegionTactic
import Derived.BigRegion
import Derived.Test.YtdedllfgeekogaaGreatDoorCntP
namespace Go.Proofs.YtdedllfgeekogaaGreatDoor
open Go.RowKit
set_option maxRecDepth 100000
set_option linter.unusedSimpArgs false
set_option linter.unusedVariables false

set_option maxHeartbeats 2000000 in
theorem imgNewer_any (na : ByteArray) (va : Int) (ca : ByteArray) (nb : ByteArray) (vb : Int) (cb : ByteArray) (w : World) (h1 : na.size ≤ 9000000000000000000) (h2 : ca.size ≤ 9000000000000000000) (h3 : nb.size ≤ 9000000000000000000) (h4 : cb.size ≤ 9000000000000000000) :
    Calls Tryz.prog 15 #[.agg #[.string na, .int .i64 va, .string ca], .agg #[.string nb, .int .i64 vb, .string cb]] w fun e w' => e = .returned (.tuple #[.bool (newB na va ca nb vb cb), errV (newE na va ca nb vb cb)]) ∧ Below w.heap.size w w' := by
  have en := fun k w => err_neq k w
  have gn := fun o k w => err_guard_neq o k w
  go_enter Tryz.func15, Tryz.ntmps15
  go_wp2_with fail
  go_loopw [13] (fun i wr => ∃ k : Nat, k ≤ 2 ∧ i = .int .i64 k ∧ Hid (1 ≤ k → imgE na va ca = 0) ∧ Hid (2 ≤ k → imgE nb vb cb = 0) ∧ Hid (Box wr w.heap.size 23 #[.string na, .int .i64 va, .string ca]) ∧ Hid (Box wr (w.heap.size + 1) 23 #[.string nb, .int .i64 vb, .string cb]) ∧ Hid (Box wr (w.heap.size + 2) 23 #[.string na, .int .i64 va, .string ca, .string nb, .int .i64 vb, .string cb]) ∧ Below w.heap.size w wr) (fun i _ => 2 - (intOf i).toNat)
  case atStart =>
    have e1 : (w.alloc (.cells #[.string na, .int .i64 va, .string ca] 23)).heap.size = w.heap.size + 1 := by simp
    have e2 : ((w.alloc (.cells #[.string na, .int .i64 va, .string ca] 23)).alloc (.cells #[.string nb, .int .i64 vb, .string cb] 23)).heap.size = w.heap.size + 2 := by simp
    have b1 := Box.new w 23 #[.string na, .int .i64 va, .string ca]
    have b2 := Box.new (w.alloc (.cells #[.string na, .int .i64 va, .string ca] 23)) 23 #[.string nb, .int .i64 vb, .string cb]
    have b3 := Box.new ((w.alloc (.cells #[.string na, .int .i64 va, .string ca] 23)).alloc (.cells #[.string nb, .int .i64 vb, .string cb] 23)) 23 #[.string na, .int .i64 va, .string ca, .string nb, .int .i64 vb, .string cb]
    rw [e1] at b2
    rw [e2] at b3
    exact ⟨0, by omega, rfl, Lib.hid (fun h => absurd h (by omega)), Lib.hid (fun h => absurd h (by omega)), Lib.hid ((b1.alloc_ _).alloc_ _), Lib.hid (b2.alloc_ _), Lib.hid b3, (by repeat (first | (with_reducible exact grow_refl _) | (with_reducible assumption) | (with_reducible refine grow_alloc ?_ _) | (with_reducible refine grow_set ?_ (by first | exact Nat.le_refl _ | (simp; done) | (simp; omega) | omega) _) | (with_reducible refine grow_drewN ?_ _) | (with_reducible refine grow_drew ?_) | (with_reducible refine grow_step ?_ (by assumption)) | (with_reducible refine grow_base ?_ (by assumption))))⟩
  case round =>
    obtain ⟨k, hk, rfl, H1, H2, HA, HB, HQ, hb⟩ := hrel
    have e : k = 0 ∨ k = 1 ∨ k = 2 := by omega
    rcases e with rfl | rfl | rfl
    · have cQ := HQ.out.cell
      have lQ := HQ.out.lt
      obtain ⟨E, hE⟩ : ∃ E, imgE na va ca = E := ⟨_, rfl⟩
      have HC := Lib.hid (fun w => imgCheck_any na va ca w h1 h2)
      rw [hE] at HC
      by_cases h0 : E = 0
      · subst h0
        have HE := Lib.hid hE
        clear hE
        go_wp2_with fail
        refine (HC.out _).mono ?_
        rintro e w2 ⟨rfl, hb2⟩
        have b2 := grow_step (grow_alloc (grow_refl wr) (.cells #[.string na, .int .i64 va, .string ca] 23)) hb2
        go_wp2_with fail
        go_roundw
        case rel => exact ⟨1, by omega, by go_num, Lib.hid (fun _ => HE.out), Lib.hid (fun h => absurd h (by omega)), Lib.hid (HA.out.below b2), Lib.hid (HB.out.below b2), Lib.hid (HQ.out.below b2), grow_step hb b2⟩
        case measure => simp [intOf]
      · have t : (E != 0) = true := by simp [h0]
        have HR : Hid (newE na va ca nb vb cb = E ∧ newB na va ca nb vb cb = false) := Lib.hid (by
          have h : newE na va ca nb vb cb = E := by unfold newE; rw [hE, if_neg h0]
          exact ⟨h, by unfold newB; rw [h]; simp [h0]⟩)
        clear hE h0
        go_wp2_with fail
        refine (HC.out _).mono ?_
        rintro e w2 ⟨rfl, hb2⟩
        go_wp2_with fail
        go_ret2
        exact ⟨by rw [HR.out.1, HR.out.2]; rfl, (by repeat (first | (with_reducible exact grow_refl _) | (with_reducible assumption) | (with_reducible refine grow_alloc ?_ _) | (with_reducible refine grow_set ?_ (by first | exact Nat.le_refl _ | (simp; done) | (simp; omega) | omega) _) | (with_reducible refine grow_drewN ?_ _) | (with_reducible refine grow_drew ?_) | (with_reducible refine grow_step ?_ (by assumption)) | (with_reducible refine grow_base ?_ (by assumption))))⟩
    · have cQ := HQ.out.cell
      have lQ := HQ.out.lt
      have ha := H1.out (by omega)
      obtain ⟨E, hE⟩ : ∃ E, imgE nb vb cb = E := ⟨_, rfl⟩
      have HC := Lib.hid (fun w => imgCheck_any nb vb cb w h3 h4)
      rw [hE] at HC
      by_cases h0 : E = 0
      · subst h0
        have HE := Lib.hid hE
        clear hE ha
        go_wp2_with fail
        refine (HC.out _).mono ?_
        rintro e w2 ⟨rfl, hb2⟩
        have b2 := grow_step (grow_alloc (grow_refl wr) (.cells #[.string nb, .int .i64 vb, .string cb] 23)) hb2
        go_wp2_with fail
        go_roundw
        case rel => exact ⟨2, by omega, by go_num, Lib.hid (fun _ => H1.out (by omega)), Lib.hid (fun _ => HE.out), Lib.hid (HA.out.below b2), Lib.hid (HB.out.below b2), Lib.hid (HQ.out.below b2), grow_step hb b2⟩
        case measure => simp [intOf]
      · have t : (E != 0) = true := by simp [h0]
        have HR : Hid (newE na va ca nb vb cb = E ∧ newB na va ca nb vb cb = false) := Lib.hid (by
          have h : newE na va ca nb vb cb = E := by unfold newE; rw [ha, if_pos rfl, hE, if_neg h0]
          exact ⟨h, by unfold newB; rw [h]; simp [h0]⟩)
        clear hE h0 ha
        go_wp2_with fail
        refine (HC.out _).mono ?_
        rintro e w2 ⟨rfl, hb2⟩
        go_wp2_with fail
        go_ret2
        exact ⟨by rw [HR.out.1, HR.out.2]; rfl, (by repeat (first | (with_reducible exact grow_refl _) | (with_reducible assumption) | (with_reducible refine grow_alloc ?_ _) | (with_reducible refine grow_set ?_ (by first | exact Nat.le_refl _ | (simp; done) | (simp; omega) | omega) _) | (with_reducible refine grow_drewN ?_ _) | (with_reducible refine grow_drew ?_) | (with_reducible refine grow_step ?_ (by assumption)) | (with_reducible refine grow_base ?_ (by assumption))))⟩
    · have ha := H1.out (by omega)
      have hbb := H2.out (by omega)
      have cA := HA.out.cell
      have lA := HA.out.lt
      have cB := HB.out.cell
      have lB := HB.out.lt
      have hnew : newE na va ca nb vb cb = if na.data.toList = nb.data.toList then 0 else 3 := by unfold newE; rw [ha, if_pos rfl, hbb, if_pos rfl]
      by_cases hq : na.data.toList = nb.data.toList
      · have t : (na.toList == nb.toList) = true := by rw [ByteArray.toList_eq, ByteArray.toList_eq, hq]; simp
        have HR : Hid (newE na va ca nb vb cb = 0 ∧ newB na va ca nb vb cb = decide (vb < va)) := Lib.hid (by
          rw [if_pos hq] at hnew
          exact ⟨hnew, by unfold newB; rw [hnew]; simp⟩)
        clear hnew hq ha hbb
        go_wp2_with fail
        go_ret2
        exact ⟨by rw [HR.out.1, HR.out.2]; rfl, (by repeat (first | (with_reducible exact grow_refl _) | (with_reducible assumption) | (with_reducible refine grow_alloc ?_ _) | (with_reducible refine grow_set ?_ (by first | exact Nat.le_refl _ | (simp; done) | (simp; omega) | omega) _) | (with_reducible refine grow_drewN ?_ _) | (with_reducible refine grow_drew ?_) | (with_reducible refine grow_step ?_ (by assumption)) | (with_reducible refine grow_base ?_ (by assumption))))⟩
      · have t : (na.toList == nb.toList) = false := by rw [ByteArray.toList_eq, ByteArray.toList_eq]; simpa using hq
        have HR : Hid (newE na va ca nb vb cb = 3 ∧ newB na va ca nb vb cb = false) := Lib.hid (by
          rw [if_neg hq] at hnew
          exact ⟨hnew, by unfold newB; rw [hnew]; simp⟩)
        clear hnew hq ha hbb
        go_wp2_with fail
        go_ret2
        exact ⟨by rw [HR.out.1, HR.out.2]; rfl, (by repeat (first | (with_reducible exact grow_refl _) | (with_reducible assumption) | (with_reducible refine grow_alloc ?_ _) | (with_reducible refine grow_set ?_ (by first | exact Nat.le_refl _ | (simp; done) | (simp; omega) | omega) _) | (with_reducible refine grow_drewN ?_ _) | (with_reducible refine grow_drew ?_) | (with_reducible refine grow_step ?_ (by assumption)) | (with_reducible refine grow_base ?_ (by assumption))))⟩
section
variable (root : Int) (A : Option Addr) (c : Nat) (cs : List (Int × Int × Int)) (ls : List Cnt) (on : ByteArray) (ov : Int) (oc : ByteArray) (op oa : Int) (zn : ByteArray) (zv : Int) (zc : ByteArray) (zp za : Int)
set_option maxHeartbeats 4000000 in
theorem updMay_any (b n : Nat) (w : World) (hA : CertsAt w A cs) (hl : cs.length ≤ 100000000000000) (hC : CE w b n ls) (h1 : on.size ≤ 140737488351232) (h2 : oc.size ≤ 140737488351232) (h3 : zn.size ≤ 140737488351232) (h4 : zc.size ≤ 140737488351232) (ht : TabT w) :
    Calls Tryz.prog 96 #[.int .i64 root, .slice A cs.length c, .pointer (some ⟨b + 1, 0, none⟩), .agg #[.string on, .int .i64 ov, .string oc, .int .i64 op, .int .i64 oa], .agg #[.string zn, .int .i64 zv, .string zc, .int .i64 zp, .int .i64 za]] w fun e w' => e = .returned (errV (updE root cs ls (on, ov, oc, op, oa) (zn, zv, zc, zp, za))) ∧ Below w.heap.size w w' := by
  have en := fun k w => err_neq k w
  have gn := fun o k w => err_guard_neq o k w
  obtain ⟨⟨q, E1⟩, hq⟩ : ∃ t, certLast root cs = t := ⟨_, rfl⟩
  have HCL := Lib.hid (fun w h => last_any root A c cs w h (by omega))
  rw [hq] at HCL
  have HA := Lib.hid hA
  have HC := Lib.hid hC
  have HT := Lib.hid ht
  have HQ := Lib.hid hq
  have HO0 := Lib.hid (Box.new w 32 #[.string on, .int .i64 ov, .string oc, .int .i64 op, .int .i64 oa])
  have hz0 := Box.new (w.alloc (.cells #[.string on, .int .i64 ov, .string oc, .int .i64 op, .int .i64 oa] 32)) 32 #[.string zn, .int .i64 zv, .string zc, .int .i64 zp, .int .i64 za]
  have e2 : (w.alloc (.cells #[.string on, .int .i64 ov, .string oc, .int .i64 op, .int .i64 oa] 32)).heap.size = w.heap.size + 1 := by simp
  rw [e2] at hz0
  have HZ0 := Lib.hid hz0
  have HO1 := Lib.hid (HO0.out.alloc_ (.cells #[.string zn, .int .i64 zv, .string zc, .int .i64 zp, .int .i64 za] 32))
  clear hA hC ht hq hz0 e2 HO0
  by_cases h0 : E1 = 0
  rotate_left
  · have HU : Hid (updE root cs ls (on, ov, oc, op, oa) (zn, zv, zc, zp, za) = E1) := Lib.hid (by unfold updE; rw [HQ.out]; simp [h0])
    have t : (E1 != 0) = true := by simp [h0]
    go_enter Tryz.func96, Tryz.ntmps96
    go_wp2_with fail
    refine (HCL.out _ (HA.out.below (by repeat (first | (with_reducible exact grow_refl _) | (with_reducible assumption) | (with_reducible refine grow_alloc ?_ _) | (with_reducible refine grow_set ?_ (by first | exact Nat.le_refl _ | (simp; done) | (simp; omega) | omega) _) | (with_reducible refine grow_drewN ?_ _) | (with_reducible refine grow_drew ?_) | (with_reducible refine grow_step ?_ (by assumption)) | (with_reducible refine grow_base ?_ (by assumption)))))).mono ?_
    rintro e w1 ⟨rfl, hb1⟩
    simp only
    go_wp2_with fail
    go_ret
    exact ⟨by rw [HU.out]; rfl, (by repeat (first | (with_reducible exact grow_refl _) | (with_reducible assumption) | (with_reducible refine grow_alloc ?_ _) | (with_reducible refine grow_set ?_ (by first | exact Nat.le_refl _ | (simp; done) | (simp; omega) | omega) _) | (with_reducible refine grow_drewN ?_ _) | (with_reducible refine grow_drew ?_) | (with_reducible refine grow_step ?_ (by assumption)) | (with_reducible refine grow_base ?_ (by assumption))))⟩
  subst h0
  obtain ⟨E2, hE2⟩ : ∃ E2, signE q zn zv zc zp za = E2 := ⟨_, rfl⟩
  have HE2 := Lib.hid hE2
  have HU1 : Hid (updE root cs ls (on, ov, oc, op, oa) (zn, zv, zc, zp, za) = if E2 = 0 then upE2 ls (on, ov, oc, op, oa) (zn, zv, zc, zp, za) else E2) := Lib.hid (by unfold updE; rw [HQ.out]; simp only [if_true]; rw [hE2])
  have HS := Lib.hid (fun w ht => signCheck_any q zn zv zc zp za w (by omega) (by omega) ht)
  rw [hE2] at HS
  go_enter Tryz.func96, Tryz.ntmps96
  go_wp2_with fail
  refine (HCL.out _ (HA.out.below (by repeat (first | (with_reducible exact grow_refl _) | (with_reducible assumption) | (with_reducible refine grow_alloc ?_ _) | (with_reducible refine grow_set ?_ (by first | exact Nat.le_refl _ | (simp; done) | (simp; omega) | omega) _) | (with_reducible refine grow_drewN ?_ _) | (with_reducible refine grow_drew ?_) | (with_reducible refine grow_step ?_ (by assumption)) | (with_reducible refine grow_base ?_ (by assumption)))))).mono ?_
  rintro e w1 ⟨rfl, hb1⟩
  simp only
  have HO2 := Lib.hid (HO1.out.below hb1)
  have HZ2 := Lib.hid (HZ0.out.below hb1)
  have hbw1 : Below w.heap.size w w1 := grow_step (grow_alloc (grow_alloc (grow_refl _) _) _) hb1
  have cZ := HZ2.out.cell
  have lZ := HZ2.out.lt
  clear hb1 HO1 HZ0 HCL
  go_wp2_with fail
  refine (HS.out _ (HT.out.below hbw1)).mono ?_
  rintro e w2 ⟨rfl, hb2⟩
  have HO3 := Lib.hid (HO2.out.below hb2)
  have HZ3 := Lib.hid (HZ2.out.below hb2)
  have hbw2 : Below w.heap.size w w2 := grow_step hbw1 hb2
  clear hb2 HO2 HZ2 cZ lZ hbw1
  by_cases h0 : E2 = 0
  rotate_left
  · have HU : Hid (updE root cs ls (on, ov, oc, op, oa) (zn, zv, zc, zp, za) = E2) := Lib.hid (by rw [HU1.out, if_neg h0])
    have t : (E2 != 0) = true := by simp [h0]
    clear hE2 h0
    go_wp2_with fail
    go_ret
    exact ⟨by rw [HU.out]; rfl, (by repeat (first | (with_reducible exact grow_refl _) | (with_reducible assumption) | (with_reducible refine grow_alloc ?_ _) | (with_reducible refine grow_set ?_ (by first | exact Nat.le_refl _ | (simp; done) | (simp; omega) | omega) _) | (with_reducible refine grow_drewN ?_ _) | (with_reducible refine grow_drew ?_) | (with_reducible refine grow_step ?_ (by assumption)) | (with_reducible refine grow_base ?_ (by assumption))))⟩
  have hs0 := hE2.trans h0
  have hN := newE_of hs0 on ov oc
  subst h0
  obtain ⟨N, hNN⟩ : ∃ N, newE zn zv zc on ov oc = N := ⟨_, rfl⟩
  obtain ⟨NB, hNB⟩ : ∃ NB, newB zn zv zc on ov oc = NB := ⟨_, rfl⟩
  have HW := Lib.hid (fun w => imgNewer_any zn zv zc on ov oc w (by omega) (by omega) (by omega) (by omega))
  rw [hNN, hNB] at HW
  have HNN := Lib.hid hNN
  have HNB := Lib.hid hNB
  have HN := Lib.hid hN
  have cZ := HZ3.out.cell
  have lZ := HZ3.out.lt
  have cO := HO3.out.cell
  have lO := HO3.out.lt
  clear hE2 hs0 hN hNN hNB HS
  go_wp2_with fail
  refine (HW.out _).mono ?_
  rintro e w3 ⟨rfl, hb3⟩
  have HZ4 := Lib.hid (HZ3.out.below hb3)
  have hbw3 : Below w.heap.size w w3 := grow_step hbw2 hb3
  clear cZ lZ cO lO hb3 hbw2
  by_cases h0 : N = 0
  rotate_left
  · have HU : Hid (updE root cs ls (on, ov, oc, op, oa) (zn, zv, zc, zp, za) = N) := Lib.hid (by
      rw [HU1.out]
      simp only [if_true]
      have h := HNN.out
      rw [HN.out] at h
      unfold upE2
      by_cases hi : imgE on ov oc = 0
      · rw [if_pos hi] at h
        by_cases he : zn.data.toList = on.data.toList
        · rw [if_pos he] at h; exact absurd h.symm h0
        · rw [if_neg he] at h
          simp only [hi, he, if_true, if_false]
          exact h
      · rw [if_neg hi] at h
        simp only [hi, if_false]
        exact h)
    have t : (N != 0) = true := by simp [h0]
    clear h0
    go_wp2_with fail
    go_ret
    exact ⟨by rw [HU.out]; rfl, (by repeat (first | (with_reducible exact grow_refl _) | (with_reducible assumption) | (with_reducible refine grow_alloc ?_ _) | (with_reducible refine grow_set ?_ (by first | exact Nat.le_refl _ | (simp; done) | (simp; omega) | omega) _) | (with_reducible refine grow_drewN ?_ _) | (with_reducible refine grow_drew ?_) | (with_reducible refine grow_step ?_ (by assumption)) | (with_reducible refine grow_base ?_ (by assumption))))⟩
  subst h0
  have hie : imgE on ov oc = 0 ∧ zn.data.toList = on.data.toList := by
    have h := HNN.out
    rw [HN.out] at h
    by_cases hi : imgE on ov oc = 0
    · rw [if_pos hi] at h
      by_cases he : zn.data.toList = on.data.toList
      · exact ⟨hi, he⟩
      · rw [if_neg he] at h; cases h
    · rw [if_neg hi] at h; exact absurd h hi
  have hnb : NB = decide (ov < zv) := by rw [← HNB.out]; unfold newB; rw [HNN.out]; simp
  have HU2 : Hid (updE root cs ls (on, ov, oc, op, oa) (zn, zv, zc, zp, za) = if zv ≤ ov then 9 else mayL ls zn zv) := Lib.hid (by
    rw [HU1.out]
    simp only [if_true]
    unfold upE2
    simp only [hie.1, hie.2, if_true])
  clear hie
  by_cases hv : ov < zv
  rotate_left
  · have hb : NB = false := by rw [hnb]; simp; omega
    have HU : Hid (updE root cs ls (on, ov, oc, op, oa) (zn, zv, zc, zp, za) = 9) := Lib.hid (by rw [HU2.out, if_pos (by omega)])
    clear hnb
    subst hb
    go_wp2_with fail
    go_ret
    exact ⟨by rw [HU.out]; rfl, (by repeat (first | (with_reducible exact grow_refl _) | (with_reducible assumption) | (with_reducible refine grow_alloc ?_ _) | (with_reducible refine grow_set ?_ (by first | exact Nat.le_refl _ | (simp; done) | (simp; omega) | omega) _) | (with_reducible refine grow_drewN ?_ _) | (with_reducible refine grow_drew ?_) | (with_reducible refine grow_step ?_ (by assumption)) | (with_reducible refine grow_base ?_ (by assumption))))⟩
  have hb : NB = true := by rw [hnb]; simp; omega
  have HU : Hid (updE root cs ls (on, ov, oc, op, oa) (zn, zv, zc, zp, za) = mayL ls zn zv) := Lib.hid (by rw [HU2.out, if_neg (by omega)])
  clear hnb
  subst hb
  have cZ := HZ4.out.cell
  have lZ := HZ4.out.lt
  go_wp2_with fail
  refine (cMay_any b n ls zn zv _ (HC.out.below hbw3) h3).mono ?_
  rintro e w4 ⟨rfl, hb4⟩
  go_wp2_with fail
  go_ret
  exact ⟨by rw [HU.out]; rfl, (by repeat (first | (with_reducible exact grow_refl _) | (with_reducible assumption) | (with_reducible refine grow_alloc ?_ _) | (with_reducible refine grow_set ?_ (by first | exact Nat.le_refl _ | (simp; done) | (simp; omega) | omega) _) | (with_reducible refine grow_drewN ?_ _) | (with_reducible refine grow_drew ?_) | (with_reducible refine grow_step ?_ (by assumption)) | (with_reducible refine grow_base ?_ (by assumption))))⟩

end

end Go.Proofs.YtdedllfgeekogaaGreatDoor

namespace Go.Proofs.YtdedllfgeekogaaGreatDoor
open Go.RowKit
set_option maxRecDepth 100000
set_option linter.unusedSimpArgs false
set_option linter.unusedVariables false

set_option maxHeartbeats 2000000 in
theorem updGood_any (g : Nat) (s : Slts) (w : World) (hB : Box w g 138 s.cs) :
    Calls Tryz.prog 95 #[.pointer (some ⟨g, 0, none⟩)] w fun e w' => e = .returned (.tuple #[.agg (s.at_ s.safe).im, errV 0]) ∧ Below w.heap.size w w' := by
  have HS := Lib.hid (fun w h => safe_any g s w h)
  have HA := Lib.hid (fun w h => at_any g s s.safe w h)
  obtain ⟨⟨n, v, c, p, a, f, t, g_⟩, hz⟩ : ∃ z, s.at_ s.safe = z := ⟨_, rfl⟩
  rw [hz] at HA ⊢
  obtain ⟨r, hr⟩ : ∃ r, s.safe = r := ⟨_, rfl⟩
  rw [hr] at HS HA
  simp only [Slt.cs] at HA
  simp only [Slt.im]
  have HB0 := Lib.hid (hB.alloc_ (.cells #[.string ⟨#[]⟩, .int .i64 0, .string ⟨#[]⟩, .int .i64 0, .int .i64 0] 32))
  have HR0 := Lib.hid (Box.new w 32 #[.string ⟨#[]⟩, .int .i64 0, .string ⟨#[]⟩, .int .i64 0, .int .i64 0])
  clear hz hr hB
  go_enter Tryz.func95, Tryz.ntmps95
  go_wp2_with fail
  refine (HS.out _ HB0.out).mono ?_
  rintro e w1 ⟨rfl, hb1⟩
  go_wp2_with fail
  refine (HA.out _ (HB0.out.below hb1)).mono ?_
  rintro e w2 ⟨rfl, hb2⟩
  have R2 := (HR0.out.below hb1).below hb2
  have cR := R2.cell
  have lR := R2.lt
  have fR := R2.frozen
  have hbw2 : Below w.heap.size w w2 := grow_step (grow_step (grow_alloc (grow_refl _) _) hb1) hb2
  clear hb1 hb2
  go_wp2_with fail
  refine bodyPost_ret (v := .tuple #[.agg #[.string n, .int .i64 v, .string c, .int .i64 p, .int .i64 a], errV 0]) (ret_cell_tmp Tryz.results95 rfl (by first | exact (R2.fill5 _ _ _ _ _).alloc_ _ | exact (R2.alloc_ _).fill5 _ _ _ _ _) Tryz.underlying32 rfl (by kernel_rfl)) rfl ⟨rfl, (by repeat (first | (with_reducible exact grow_refl _) | (with_reducible assumption) | (with_reducible refine grow_alloc ?_ _) | (with_reducible refine grow_set ?_ (by first | exact Nat.le_refl _ | (simp; done) | (simp; omega) | omega) _) | (with_reducible refine grow_drewN ?_ _) | (with_reducible refine grow_drew ?_) | (with_reducible refine grow_step ?_ (by assumption)) | (with_reducible refine grow_base ?_ (by assumption))))⟩

set_option maxHeartbeats 4000000 in
theorem updDo_any (root : Int) (A : Option Addr) (c : Nat) (cs : List (Int × Int × Int)) (ls : List Cnt) (zn : ByteArray) (zv : Int) (zc : ByteArray) (zp za : Int) (g : Nat) (s : Slts) (b n : Nat) (w : World) (hA : CertsAt w A cs) (hl : cs.length ≤ 100000000000000) (hC : CE w b n ls) (hB : Box w g 138 s.cs)
    (hs : Inv s) (h3 : zn.size ≤ 140737488351232) (h4 : zc.size ≤ 140737488351232) (ht : TabT w) :
    Calls Tryz.prog 61 #[.int .i64 root, .slice A cs.length c, .pointer (some ⟨b + 1, 0, none⟩), .pointer (some ⟨g, 0, none⟩), .agg #[.string zn, .int .i64 zv, .string zc, .int .i64 zp, .int .i64 za]] w fun e w' => e = .returned (errV (doE root cs ls s (zn, zv, zc, zp, za))) ∧ Box w' g 138 (doS root cs ls s (zn, zv, zc, zp, za)).cs ∧ But (fun k => k = g) w w' := by
  have en := fun k w => err_neq k w
  have gn := fun o k w => err_guard_neq o k w
  have HGD := Lib.hid (fun w h => updGood_any g s w h)
  have ok := hs.at_ s.safe
  obtain ⟨U, hU⟩ : ∃ U, updE root cs ls (s.at_ s.safe).sg (zn, zv, zc, zp, za) = U := ⟨_, rfl⟩
  have HU := Lib.hid hU
  obtain ⟨⟨on, ov, oc, op, oa, f, t, g_⟩, hz⟩ : ∃ z, s.at_ s.safe = z := ⟨_, rfl⟩
  have HM := Lib.hid (fun w hA hC ht => updMay_any root A c cs ls on ov oc op oa zn zv zc zp za b n w hA hl hC (by rw [hz] at ok; exact ok.2.2.2.1) (by rw [hz] at ok; exact ok.2.2.2.2.1) h3 h4 ht)
  rw [hz] at HGD hU
  simp only [Slt.im] at HGD
  simp only [Slt.sg] at hU
  rw [hU] at HM
  have HA := Lib.hid hA
  have HC := Lib.hid hC
  have HT := Lib.hid ht
  have HB0 := Lib.hid (hB.alloc_ (.cells #[.string zn, .int .i64 zv, .string zc, .int .i64 zp, .int .i64 za] 32))
  have HZ0 := Lib.hid (Box.new w 32 #[.string zn, .int .i64 zv, .string zc, .int .i64 zp, .int .i64 za])
  clear hA hC ht hB hU hz ok
  go_enter Tryz.func61, Tryz.ntmps61
  go_wp2_with fail
  refine (HGD.out _ HB0.out).mono ?_
  rintro e w1 ⟨rfl, hb1⟩
  have HB1 := Lib.hid ((HB0.out.below hb1).alloc_ (.cells #[.string on, .int .i64 ov, .string oc, .int .i64 op, .int .i64 oa] 32))
  have HZ1 := Lib.hid ((HZ0.out.below hb1).alloc_ (.cells #[.string on, .int .i64 ov, .string oc, .int .i64 op, .int .i64 oa] 32))
  have HO1 := Lib.hid (Box.new w1 32 #[.string on, .int .i64 ov, .string oc, .int .i64 op, .int .i64 oa])
  have hbw1 : Below w.heap.size w (w1.alloc (.cells #[.string on, .int .i64 ov, .string oc, .int .i64 op, .int .i64 oa] 32)) := grow_alloc (grow_step (grow_alloc (grow_refl _) _) hb1) _
  have cZ := HZ1.out.cell
  have lZ := HZ1.out.lt
  clear hb1 HB0 HZ0 HGD
  go_wp2_with fail
  refine (HM.out _ (HA.out.below hbw1) (HC.out.below hbw1) (HT.out.below hbw1)).mono ?_
  rintro e w2 ⟨rfl, hb2⟩
  have HB2 := Lib.hid (HB1.out.below hb2)
  have HZ2 := Lib.hid (HZ1.out.below hb2)
  have hbw2 : Below w.heap.size w w2 := grow_step hbw1 hb2
  clear hb2 HB1 HZ1 HO1 hbw1 cZ lZ HM
  by_cases h0 : U = 0
  · have HD : Hid (doE root cs ls s (zn, zv, zc, zp, za) = putE s zn zv zc ∧ doS root cs ls s (zn, zv, zc, zp, za) = putS s zn zv zc zp za) := Lib.hid (by
      unfold doE doS
      have h := HU.out.trans h0
      exact ⟨if_pos h, if_pos h⟩)
    subst h0
    have cZ := HZ2.out.cell
    have lZ := HZ2.out.lt
    go_wp2_with fail
    refine (putC g s zn zv zc zp za _ HB2.out h3 h4).mono ?_
    rintro e w3 ⟨rfl, hB3, hk3⟩
    go_wp2_with fail
    go_ret
    refine ⟨by rw [HD.out.1]; rfl, by rw [HD.out.2]; exact hB3, ?_⟩
    exact (below_but hbw2 (fun k => k = g)).trans hk3 (fun x _ h => h)
  · have HD : Hid (doE root cs ls s (zn, zv, zc, zp, za) = U ∧ doS root cs ls s (zn, zv, zc, zp, za) = s) := Lib.hid (by
      unfold doE doS
      have h : updE root cs ls (s.at_ s.safe).sg (zn, zv, zc, zp, za) ≠ 0 := fun h => h0 (HU.out.symm.trans h)
      exact ⟨(if_neg h).trans HU.out, if_neg h⟩)
    have t : (U != 0) = true := by simp [h0]
    clear h0
    go_wp2_with fail
    go_ret
    exact ⟨by rw [HD.out.1]; rfl, by rw [HD.out.2]; exact HB2.out, below_but hbw2 _⟩

end Go.Proofs.YtdedllfgeekogaaGreatDoor
