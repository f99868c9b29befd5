/- update.Do: what it answers, and what the slots come to. -/
import Derived.Test.YtflhbnaocognlaaGreatDoorRows
import Derived.Test.YtflhbnaocognlaaGreatDoorNum
import Derived.Test.YtflhbnaocognlaaGreatDoorBase
import Derived.Test.YtflhbnaocognlaaGreatDoorCert
import Derived.Test.YtflhbnaocognlaaGreatDoorImg
import Derived.Test.YtflhbnaocognlaaGreatDoorImg2
import Derived.Test.YtflhbnaocognlaaGreatDoorSign
import Derived.Test.YtflhbnaocognlaaGreatDoorFoot
import Derived.Test.YtflhbnaocognlaaGreatDoorLiftT
import Derived.Test.YtflhbnaocognlaaGreatDoorSlot
import Derived.Test.YtflhbnaocognlaaGreatDoorSlot2
import Derived.Test.YtflhbnaocognlaaGreatDoorSInv
import Derived.Test.YtflhbnaocognlaaGreatDoorCntP
import Derived.Test.YtflhbnaocognlaaGreatDoorCntC
import Derived.Test.YtflhbnaocognlaaGreatDoorUpdP
import Derived.Test.YtflhbnaocognlaaGreatDoorUpd
import Derived.WalkKit
import Derived.WalkSpells
import Derived.Lib.Hide
namespace Go.Proofs.YtflhbnaocognlaaGreatDoor
open Go.RowKit
set_option maxRecDepth 100000
set_option linter.unusedSimpArgs false
set_option linter.unusedVariables false

set_option maxHeartbeats 2000000 in
theorem updGood_any (g : Nat) (s : Slts) (w : World) (hB : Box w g 76 s.cs) :
    Calls Tryz.prog 33 #[.pointer (some ⟨g, 0, none⟩)] w fun e w' => e = .returned (.tuple #[.agg (s.at_ s.safe).im, errV 0]) ∧ Below w.heap.size w w' := by
  have HS := Lib.hid (fun w h => safe_any g s w h)
  have HA := Lib.hid (fun w h => at_any g s s.safe w h)
  obtain ⟨⟨n, v, c, p, a, f, t, g_⟩, hz⟩ : ∃ z, s.at_ s.safe = z := ⟨_, rfl⟩
  rw [hz] at HA ⊢
  obtain ⟨r, hr⟩ : ∃ r, s.safe = r := ⟨_, rfl⟩
  rw [hr] at HS HA
  simp only [Slt.cs] at HA
  simp only [Slt.im]
  have HB0 := Lib.hid (hB.alloc_ (.cells #[.string ⟨#[]⟩, .int .i64 0, .string ⟨#[]⟩, .int .i64 0, .int .i64 0] 30))
  have HR0 := Lib.hid (Box.new w 30 #[.string ⟨#[]⟩, .int .i64 0, .string ⟨#[]⟩, .int .i64 0, .int .i64 0])
  clear hz hr hB
  go_enter Tryz.func33, Tryz.ntmps33
  go_wp2_with fail
  refine (HS.out _ HB0.out).mono ?_
  rintro e w1 ⟨rfl, hb1⟩
  go_wp2_with fail
  refine (HA.out _ (HB0.out.below hb1)).mono ?_
  rintro e w2 ⟨rfl, hb2⟩
  have R2 := (HR0.out.below hb1).below hb2
  have cR := R2.cell
  have lR := R2.lt
  have fR := R2.frozen
  have hbw2 : Below w.heap.size w w2 := grow_step (grow_step (grow_alloc (grow_refl _) _) hb1) hb2
  clear hb1 hb2
  go_wp2_with fail
  refine bodyPost_ret (v := .tuple #[.agg #[.string n, .int .i64 v, .string c, .int .i64 p, .int .i64 a], errV 0]) (ret_cell_tmp Tryz.results33 rfl (by first | exact (R2.fill5 _ _ _ _ _).alloc_ _ | exact (R2.alloc_ _).fill5 _ _ _ _ _) Tryz.underlying30 rfl (by kernel_rfl)) rfl ⟨rfl, (by repeat (first | (with_reducible exact grow_refl _) | (with_reducible assumption) | (with_reducible refine grow_alloc ?_ _) | (with_reducible refine grow_set ?_ (by first | exact Nat.le_refl _ | (simp; done) | (simp; omega) | omega) _) | (with_reducible refine grow_drewN ?_ _) | (with_reducible refine grow_drew ?_) | (with_reducible refine grow_step ?_ (by assumption)) | (with_reducible refine grow_base ?_ (by assumption))))⟩

set_option maxHeartbeats 4000000 in
theorem updDo_any (root : Int) (A : Option Addr) (c : Nat) (cs : List (Int × Int × Int)) (ls : List Cnt) (zn : ByteArray) (zv : Int) (zc : ByteArray) (zp za : Int) (g : Nat) (s : Slts) (b n : Nat) (w : World) (hA : CertsAt w A cs) (hl : cs.length ≤ 100000000000000) (hC : CE w b n ls) (hB : Box w g 76 s.cs)
    (hs : Inv s) (h3 : zn.size ≤ 140737488351232) (h4 : zc.size ≤ 140737488351232) (ht : TabT w) :
    Calls Tryz.prog 13 #[.int .i64 root, .slice A cs.length c, .pointer (some ⟨b + 1, 0, none⟩), .pointer (some ⟨g, 0, none⟩), .agg #[.string zn, .int .i64 zv, .string zc, .int .i64 zp, .int .i64 za]] w fun e w' => e = .returned (errV (doE root cs ls s (zn, zv, zc, zp, za))) ∧ Box w' g 76 (doS root cs ls s (zn, zv, zc, zp, za)).cs ∧ But (fun k => k = g) w w' := by
  have en := fun k w => err_neq k w
  have gn := fun o k w => err_guard_neq o k w
  have HGD := Lib.hid (fun w h => updGood_any g s w h)
  have ok := hs.at_ s.safe
  obtain ⟨U, hU⟩ : ∃ U, updE root cs ls (s.at_ s.safe).sg (zn, zv, zc, zp, za) = U := ⟨_, rfl⟩
  have HU := Lib.hid hU
  obtain ⟨⟨on, ov, oc, op, oa, f, t, g_⟩, hz⟩ : ∃ z, s.at_ s.safe = z := ⟨_, rfl⟩
  have HM := Lib.hid (fun w hA hC ht => updMay_any root A c cs ls on ov oc op oa zn zv zc zp za b n w hA hl hC (by rw [hz] at ok; exact ok.2.2.2.1) (by rw [hz] at ok; exact ok.2.2.2.2.1) h3 h4 ht)
  rw [hz] at HGD hU
  simp only [Slt.im] at HGD
  simp only [Slt.sg] at hU
  rw [hU] at HM
  have HA := Lib.hid hA
  have HC := Lib.hid hC
  have HT := Lib.hid ht
  have HB0 := Lib.hid (hB.alloc_ (.cells #[.string zn, .int .i64 zv, .string zc, .int .i64 zp, .int .i64 za] 30))
  have HZ0 := Lib.hid (Box.new w 30 #[.string zn, .int .i64 zv, .string zc, .int .i64 zp, .int .i64 za])
  clear hA hC ht hB hU hz ok
  go_enter Tryz.func13, Tryz.ntmps13
  go_wp2_with fail
  refine (HGD.out _ HB0.out).mono ?_
  rintro e w1 ⟨rfl, hb1⟩
  have HB1 := Lib.hid ((HB0.out.below hb1).alloc_ (.cells #[.string on, .int .i64 ov, .string oc, .int .i64 op, .int .i64 oa] 30))
  have HZ1 := Lib.hid ((HZ0.out.below hb1).alloc_ (.cells #[.string on, .int .i64 ov, .string oc, .int .i64 op, .int .i64 oa] 30))
  have HO1 := Lib.hid (Box.new w1 30 #[.string on, .int .i64 ov, .string oc, .int .i64 op, .int .i64 oa])
  have hbw1 : Below w.heap.size w (w1.alloc (.cells #[.string on, .int .i64 ov, .string oc, .int .i64 op, .int .i64 oa] 30)) := grow_alloc (grow_step (grow_alloc (grow_refl _) _) hb1) _
  have cZ := HZ1.out.cell
  have lZ := HZ1.out.lt
  clear hb1 HB0 HZ0 HGD
  go_wp2_with fail
  refine (HM.out _ (HA.out.below hbw1) (HC.out.below hbw1) (HT.out.below hbw1)).mono ?_
  rintro e w2 ⟨rfl, hb2⟩
  have HB2 := Lib.hid (HB1.out.below hb2)
  have HZ2 := Lib.hid (HZ1.out.below hb2)
  have hbw2 : Below w.heap.size w w2 := grow_step hbw1 hb2
  clear hb2 HB1 HZ1 HO1 hbw1 cZ lZ HM
  by_cases h0 : U = 0
  · have HD : Hid (doE root cs ls s (zn, zv, zc, zp, za) = putE s zn zv zc ∧ doS root cs ls s (zn, zv, zc, zp, za) = putS s zn zv zc zp za) := Lib.hid (by
      unfold doE doS
      have h := HU.out.trans h0
      exact ⟨if_pos h, if_pos h⟩)
    subst h0
    have cZ := HZ2.out.cell
    have lZ := HZ2.out.lt
    go_wp2_with fail
    refine (putC g s zn zv zc zp za _ HB2.out h3 h4).mono ?_
    rintro e w3 ⟨rfl, hB3, hk3⟩
    go_wp2_with fail
    go_ret
    refine ⟨by rw [HD.out.1]; rfl, by rw [HD.out.2]; exact hB3, ?_⟩
    exact (below_but hbw2 (fun k => k = g)).trans hk3 (fun x _ h => h)
  · have HD : Hid (doE root cs ls s (zn, zv, zc, zp, za) = U ∧ doS root cs ls s (zn, zv, zc, zp, za) = s) := Lib.hid (by
      unfold doE doS
      have h : updE root cs ls (s.at_ s.safe).sg (zn, zv, zc, zp, za) ≠ 0 := fun h => h0 (HU.out.symm.trans h)
      exact ⟨(if_neg h).trans HU.out, if_neg h⟩)
    have t : (U != 0) = true := by simp [h0]
    clear h0
    go_wp2_with fail
    go_ret
    exact ⟨by rw [HD.out.1]; rfl, by rw [HD.out.2]; exact HB2.out, below_but hbw2 _⟩

end Go.Proofs.YtflhbnaocognlaaGreatDoor
