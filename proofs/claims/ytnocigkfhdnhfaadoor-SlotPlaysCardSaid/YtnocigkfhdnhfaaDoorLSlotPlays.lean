/- SlotPlays: any images that are put, started, and good: what is refused, which would be started, and both slots, as the reference says. The package variable errors.errorType holds what the program's text lays. -/
import Derived.Test.YtnocigkfhdnhfaaDoorRows
import Derived.Test.YtnocigkfhdnhfaaDoorOpen
import Derived.Test.YtnocigkfhdnhfaaDoorOpI
import Derived.Test.YtnocigkfhdnhfaaDoorImg
import Derived.Test.YtnocigkfhdnhfaaDoorRefI
import Derived.Test.YtnocigkfhdnhfaaDoorFoot
import Derived.Test.YtnocigkfhdnhfaaDoorSlot
import Derived.Test.YtnocigkfhdnhfaaDoorSlot2
import Derived.Test.YtnocigkfhdnhfaaDoorRSlot
import Derived.Test.YtnocigkfhdnhfaaDoorSInv
import Derived.Test.YtnocigkfhdnhfaaDoorSgEq
import Derived.Test.YtnocigkfhdnhfaaDoorQuietC
import Derived.Test.YtnocigkfhdnhfaaDoorTold
import Derived.Test.YtnocigkfhdnhfaaDoorBds
import Derived.Test.YtnocigkfhdnhfaaDoorLiftD
import Derived.WalkKit
import Derived.WalkSpells
import Derived.Lib.Hide
import Derived.Deep.DeepCutAuto
import Derived.Deep.CutBlock
import Derived.Deep.CutRange
import Derived.Deep.RegionHeld3
import Derived.Deep.QuietTactic
import Derived.BigQuiet
import Derived.RegionTactic
import Derived.BigRegion
namespace Go.Proofs.YtnocigkfhdnhfaaDoor
open Go.ChangeShapes Go.WideShapes Go.ChangeAt Go.RowKit
set_option linter.unusedVariables false
set_option maxRecDepth 100000

theorem atE_far {y : Int} (h0 : 0 ≤ y) (h1 : y ≤ 9223372036854775807) : atE (wrap64 (y + 2)) = 1 := by
  unfold atE wrap64
  rw [if_neg (by omega)]
/-- What the last region keeps. -/
def KeepP (w0 : World) (i5 i6 g g' : Nat) (s : Slts) (w : World) : Prop :=
  Box w i5 58 s.x.cs ∧ Box w i6 58 s.y.cs ∧ Box w g 109 s.cs ∧ Box w g' 73 s.cs ∧ Below w0.heap.size w0 w
theorem KeepP.below {w0 : World} {i5 i6 g g' : Nat} {s : Slts} {w w' : World} (h : KeepP w0 i5 i6 g g' s w) (hb : Below w.heap.size w w') : KeepP w0 i5 i6 g g' s w' :=
  ⟨h.1.below hb, h.2.1.below hb, h.2.2.1.below hb, h.2.2.2.1.below hb, grow_step h.2.2.2.2 hb⟩
theorem at0P (g : Nat) (x y : Slt) (r : Bool) (w : World) (hB : Box w g 109 (Slts.mk x y r).cs) :
    Calls Tryd.prog 26 #[.pointer (some ⟨g, 0, none⟩), .int .i64 0] w fun e w' => e = .returned (.tuple #[.agg #[.string x.n, .int .i64 x.v, .string x.c, .int .i64 x.p, .int .i64 x.a, .bool x.f, .int .i64 x.t, .bool x.g], errV 0]) ∧ Below w.heap.size w w' := at_any g ⟨x, y, r⟩ false w hB
theorem at1P (g : Nat) (x y : Slt) (r : Bool) (w : World) (hB : Box w g 109 (Slts.mk x y r).cs) :
    Calls Tryd.prog 26 #[.pointer (some ⟨g, 0, none⟩), .int .i64 1] w fun e w' => e = .returned (.tuple #[.agg #[.string y.n, .int .i64 y.v, .string y.c, .int .i64 y.p, .int .i64 y.a, .bool y.f, .int .i64 y.t, .bool y.g], errV 0]) ∧ Below w.heap.size w w' := at_any g ⟨x, y, r⟩ true w hB

set_option maxHeartbeats 8000000 in
theorem slotPlays_walk (w : World) (n : ByteArray) (v : Int) (c : ByteArray) (p a : Int) (A : Option Addr) (l : List Int) (cl : Nat) (B : Option Addr) (ss : List Sgn) (cb : Nat)
    (iv : I64 v) (hn : n.size ≤ 140737488351232) (hc : c.size ≤ 140737488351232) (ip : I64 p) (ia : I64 a) (hA : IntsAt w A l) (hi : ∀ x ∈ l, I64 x) (hl : l.length * 8 ≤ 140737488351232)
    (hS : SgnsAt w B ss) (hsl : ss.length * 56 ≤ 140737488351232) (hcb : ss.length ≤ cb)
    (hss : ∀ i, i < ss.length → (ss.getD i noSgn).1.size ≤ 140737488351232 ∧ (ss.getD i noSgn).2.2.1.size ≤ 140737488351232 ∧ I64 (ss.getD i noSgn).2.1 ∧ I64 (ss.getD i noSgn).2.2.2.1 ∧ I64 (ss.getD i noSgn).2.2.2.2) (hg : Door w) :
    Calls Tryd.prog 8 #[.agg #[.string n, .int .i64 v, .string c, .int .i64 p, .int .i64 a], .slice A l.length cl, .slice B ss.length cb] w fun e w' => e = .returned (.bool true) ∧ Below w.heap.size w w' := by
  have en := fun k w => err_neq k w
  have gn := fun o k w => err_guard_neq o k w
  have HG := Lib.hid hg
  have HA := Lib.hid hA
  have HI64 : Hid (∀ i, i < l.length → I64 (l.getD i 0)) := Lib.hid (fun i h => hi _ (by rw [List.getD_eq_getElem?_getD, List.getElem?_eq_getElem h]; exact List.getElem_mem h))
  have HS := Lib.hid hS
  have HSS := Lib.hid hss
  have HF0 := Lib.hid (Box.new w 53 #[.string n, .int .i64 v, .string c, .int .i64 p, .int .i64 a])
  have HV0 := Lib.hid (Inv.first hn hc iv ip ia)
  clear hA hi hS hss hg
  by_cases h0 : imgE n v c = 0
  rotate_left
  · obtain ⟨E, hE⟩ : ∃ E, imgE n v c = E := ⟨_, rfl⟩
    have HE := Lib.hid hE
    have HN := Lib.hid h0
    have HEI : Hid (I64 E) := Lib.hid (by rw [← hE]; exact imgE_bd _ _ _)
    rw [hE] at h0
    have t : (E != 0) = true := by simp [h0]
    clear hE h0
    go_enter Tryd.func8, Tryd.ntmps8
    go_wp2_with fail
    refine (rImage_any n v c _ (by omega) (by omega)).mono ?_
    rintro e w1 ⟨rfl, hb1⟩
    rw [HE.out]
    have hbw1 : Below w.heap.size w w1 := grow_step (grow_alloc (grow_refl _) _) hb1
    have F1 := HF0.out.below hb1
    have cF := F1.cell
    have lF := F1.lt
    clear F1 hb1
    go_wp2_with fail
    refine (slotNew_no n v c p a _ (by omega) (by omega) HN.out).mono ?_
    rintro e w2 ⟨rfl, hb2⟩
    rw [HE.out]
    have hbw2 : Below w.heap.size w w2 := grow_step hbw1 hb2
    clear cF lF hb2
    go_wp2_with fail
    refine (error_any E E _ (HG.out.below hbw2) HEI.out).mono ?_
    rintro e w3 ⟨rfl, hb3⟩
    rw [show (E == E) = true by simp]
    go_wp2_with fail
    go_ret
    exact ⟨rfl, (by repeat (first | (with_reducible exact grow_refl _) | (with_reducible assumption) | (with_reducible refine grow_alloc ?_ _) | (with_reducible refine grow_set ?_ (by first | exact Nat.le_refl _ | (simp; done) | (simp; omega) | omega) _) | (with_reducible refine grow_drewN ?_ _) | (with_reducible refine grow_drew ?_) | (with_reducible refine grow_step ?_ (by assumption)) | (with_reducible refine grow_base ?_ (by assumption))))⟩
  have HI := Lib.hid h0
  clear h0
  go_enter Tryd.func8, Tryd.ntmps8
  go_wp2_with fail
  refine (rImage_any n v c _ (by omega) (by omega)).mono ?_
  rintro e w1 ⟨rfl, hb1⟩
  rw [HI.out]
  have hbw1 : Below w.heap.size w w1 := grow_step (grow_alloc (grow_refl _) _) hb1
  have HF1 := Lib.hid (HF0.out.below hb1)
  have cF := HF1.out.cell
  have lF := HF1.out.lt
  clear hb1 HF0
  go_wp2_with fail
  refine (slotNew_yes n v c p a _ (by omega) (by omega) HI.out).mono ?_
  rintro e w2 ⟨g, rfl, hB2, hg2, hb2⟩
  have HB2 := Lib.hid hB2
  have HF2 := Lib.hid (HF1.out.below hb2)
  have hbw2 : Below w.heap.size w w2 := grow_step hbw1 hb2
  have hgw : w.heap.size ≤ g := Nat.le_trans hbw1.size hg2
  clear hB2 hb2 hg2 HF1 cF lF hbw1
  go_wp2_with fail
  refine (error_any 0 0 _ (HG.out.below hbw2) (i64_small (by decide) (by decide))).mono ?_
  rintro e w3 ⟨rfl, hb3⟩
  rw [show ((0 : Int) == 0) = true from rfl]
  have HB3 := Lib.hid (HB2.out.below hb3)
  have HF3 := Lib.hid (HF2.out.below hb3)
  have hbw3 : Below w.heap.size w w3 := grow_step hbw2 hb3
  have cF := HF3.out.cell
  have lF := HF3.out.lt
  clear hb3 HB2 HF2 hbw2
  go_wp2_with fail
  refine (rslotNew n v c p a _).mono ?_
  rintro e w4 ⟨g', rfl, hR4, hg4, hb4⟩
  have HR4 := Lib.hid hR4
  have HB4 := Lib.hid (HB3.out.below hb4)
  have hbw4 : Below w.heap.size w w4 := grow_step hbw3 hb4
  have hgg : g < g' := Nat.lt_of_lt_of_le HB3.out.lt hg4
  clear hR4 hb4 hg4 HB3 HF3 cF lF hbw3
  go_wp2_with fail
  go_loopw [10, 12, 13] (fun t q i wr => ∃ (k j : Nat) (s : Slts), k ≤ l.length ∧ j ≤ ss.length ∧ t = .bool true ∧ q = .int .i64 j ∧ i = .int .i64 k ∧ Hid (Inv s) ∧ Hid (Box wr g 109 s.cs) ∧ Hid (Box wr g' 73 s.cs) ∧ Below w.heap.size w wr) (fun _ _ i _ => l.length - (intOf i).toNat)
  case atStart => exact ⟨0, 0, _, by omega, by omega, rfl, rfl, rfl, HV0, HB4, HR4, hbw4⟩
  case round =>
    clear HB4 HR4 HV0
    obtain ⟨k, j, s, hk, hj, rfl, rfl, rfl, HV, HB, HR, hbr⟩ := hrel
    by_cases hlt : k < l.length
    · have g0 : (k : Int) < (l.length : Int) := by omega
      by_cases h60 : k < 60
      · have g1 : (k : Int) < 60 := by omega
        obtain ⟨y, hy⟩ : ∃ y, l.getD k 0 = y := ⟨_, rfl⟩
        have HY := Lib.hid hy
        obtain ⟨b0, off, rfl, _, hcc⟩ := (HA.out.below hbr) k hlt
        rw [hy] at hcc
        clear hy
        go_upto_block 2 with fail
        go_cut [10, 12, 14] from 55 to 85 (fun told q _ wx => ∃ (j' : Nat) (s' : Slts), told = .bool true ∧ q = .int .i64 j' ∧ j' ≤ ss.length ∧ Hid (Inv s') ∧ Hid (Box wx g 109 s'.cs) ∧ Hid (Box wx g' 73 s'.cs) ∧ Below w.heap.size w wx)
        case first =>
          obtain ⟨w1, hw1⟩ : ∃ w1, w1 = wr := ⟨_, rfl⟩
          subst hw1
          have hz3 : w1.heap.size ≠ g := by have := HB.out.lt; omega
          have hz4 : w1.heap.size ≠ g' := by have := HR.out.lt; omega
          have hgg2 : g ≠ g' := by omega
          have hgg3 : g' ≠ g := by omega
          by_cases y0 : y = 0
          · subst y0
            by_cases hin : j < ss.length
            · have gq : (j : Int) < (ss.length : Int) := by omega
              obtain ⟨b1, off1, rfl, _, hcs⟩ := (HS.out.below hbr) j hin
              obtain ⟨z1, z2, z3, z4, z5⟩ := HSS.out j hin
              obtain ⟨⟨sn, sv, sc, sp, sa⟩, hz⟩ : ∃ z, ss.getD j noSgn = z := ⟨_, rfl⟩
              rw [hz] at hcs z1 z2 z3 z4 z5
              simp only [sgnCs] at hcs z1 z2 z3 z4 z5
              have e0 := hcs 0 (by decide)
              have e1 := hcs 1 (by decide)
              have e2 := hcs 2 (by decide)
              have e3 := hcs 3 (by decide)
              have e4 := hcs 4 (by decide)
              simp at e0 e1 e2 e3 e4
              clear hz hcs
              obtain ⟨E, hE⟩ : ∃ E, putE s sn sv sc = E := ⟨_, rfl⟩
              obtain ⟨s', hs'⟩ : ∃ s', putS s sn sv sc sp sa = s' := ⟨_, rfl⟩
              have HV' : Hid (Inv s') := Lib.hid (by rw [← hs']; exact HV.out.putS z1 z2 z3 z4 z5)
              have HEI : Hid (I64 E) := Lib.hid (by rw [← hE]; exact putE_bd _ _ _ _)
              have HP1 := Lib.hid (fun w hB => putC g s sn sv sc sp sa w hB z1 z2)
              have HP2 := Lib.hid (fun w hB => rputC g' s sn sv sc sp sa w hB z1 z2)
              rw [hE, hs'] at HP1 HP2
              have GP : Box (w1.alloc (.cells #[.string sn, .int .i64 sv, .string sc, .int .i64 sp, .int .i64 sa] 53)).drew g 109 s.cs := (HB.out.alloc_ _).drew_
              have GR : Box (w1.alloc (.cells #[.string sn, .int .i64 sv, .string sc, .int .i64 sp, .int .i64 sa] 53)).drew g' 73 s.cs := (HR.out.alloc_ _).drew_
              have GZ : Box (w1.alloc (.cells #[.string sn, .int .i64 sv, .string sc, .int .i64 sp, .int .i64 sa] 53)).drew w1.heap.size 53 #[.string sn, .int .i64 sv, .string sc, .int .i64 sp, .int .i64 sa] := (Box.new w1 53 #[.string sn, .int .i64 sv, .string sc, .int .i64 sp, .int .i64 sa]).drew_
              have GW : Below w.heap.size w (w1.alloc (.cells #[.string sn, .int .i64 sv, .string sc, .int .i64 sp, .int .i64 sa] 53)).drew := grow_drew (grow_alloc hbr _)
              clear hE hs'
              go_upto_region 18 with fail
              go_region_held3 (fun w' => (∀ i, w'.cell? ⟨w1.heap.size, i, none⟩ = (#[.string sn, .int .i64 sv, .string sc, .int .i64 sp, .int .i64 sa] : Array Value)[i]?) ∧ Below w.heap.size w w')
                (first
                  | exact ⟨GZ.cell, GW⟩
                  | (go_keep; done))
                (first
                  | (go_at_call 32; refine (HP1.out _ GP).mono ?_; rintro e w5 ⟨rfl, hBn, hkn⟩; have GZ := GZ.but hkn hz3; have GR := GR.but hkn hgg3; have GW := GW.trans (hkn.below GW.size (by intro j h; have : j = g := h; omega)); have GP := hBn)
                  | (go_at_call 33; refine (HP2.out _ GR).mono ?_; rintro e w6 ⟨rfl, hBn, hkn⟩; have GZ := GZ.but hkn hz4; have GP := GP.but hkn hgg2; have GW := GW.trans (hkn.below GW.size (by intro j h; have : j = g' := h; omega)); have GR := hBn)
                  | (go_at_call 16; refine (error_any E E _ (HG.out.below GW) HEI.out).mono ?_; rintro e w7 ⟨rfl, hbn⟩; have GZ := GZ.below hbn; have GP := GP.below hbn; have GR := GR.below hbn; have GW := grow_step GW hbn))
              all_goals
                go_wp2_with fail
                go_meet
                exact ⟨(j + 1), s', by simp, by go_num, by omega, HV', Lib.hid GP, Lib.hid GR, GW⟩
            · have gq : ¬ (j : Int) < (ss.length : Int) := by omega
              have z1 : (⟨#[]⟩ : ByteArray).size ≤ 140737488351232 := by decide
              have z2 : (⟨#[]⟩ : ByteArray).size ≤ 140737488351232 := by decide
              have z3 : I64 0 := i64_small (by decide) (by decide)
              have z4 := z3
              have z5 := z3
              obtain ⟨E, hE⟩ : ∃ E, putE s ⟨#[]⟩ 0 ⟨#[]⟩ = E := ⟨_, rfl⟩
              obtain ⟨s', hs'⟩ : ∃ s', putS s ⟨#[]⟩ 0 ⟨#[]⟩ 0 0 = s' := ⟨_, rfl⟩
              have HV' : Hid (Inv s') := Lib.hid (by rw [← hs']; exact HV.out.putS z1 z2 z3 z4 z5)
              have HEI : Hid (I64 E) := Lib.hid (by rw [← hE]; exact putE_bd _ _ _ _)
              have HP1 := Lib.hid (fun w hB => putC g s ⟨#[]⟩ 0 ⟨#[]⟩ 0 0 w hB z1 z2)
              have HP2 := Lib.hid (fun w hB => rputC g' s ⟨#[]⟩ 0 ⟨#[]⟩ 0 0 w hB z1 z2)
              rw [hE, hs'] at HP1 HP2
              have GP : Box (w1.alloc (.cells #[.string ⟨#[]⟩, .int .i64 0, .string ⟨#[]⟩, .int .i64 0, .int .i64 0] 53)).drew g 109 s.cs := (HB.out.alloc_ _).drew_
              have GR : Box (w1.alloc (.cells #[.string ⟨#[]⟩, .int .i64 0, .string ⟨#[]⟩, .int .i64 0, .int .i64 0] 53)).drew g' 73 s.cs := (HR.out.alloc_ _).drew_
              have GZ : Box (w1.alloc (.cells #[.string ⟨#[]⟩, .int .i64 0, .string ⟨#[]⟩, .int .i64 0, .int .i64 0] 53)).drew w1.heap.size 53 #[.string ⟨#[]⟩, .int .i64 0, .string ⟨#[]⟩, .int .i64 0, .int .i64 0] := (Box.new w1 53 #[.string ⟨#[]⟩, .int .i64 0, .string ⟨#[]⟩, .int .i64 0, .int .i64 0]).drew_
              have GW : Below w.heap.size w (w1.alloc (.cells #[.string ⟨#[]⟩, .int .i64 0, .string ⟨#[]⟩, .int .i64 0, .int .i64 0] 53)).drew := grow_drew (grow_alloc hbr _)
              clear hE hs'
              go_upto_region 18 with fail
              go_region_held3 (fun w' => (∀ i, w'.cell? ⟨w1.heap.size, i, none⟩ = (#[.string ⟨#[]⟩, .int .i64 0, .string ⟨#[]⟩, .int .i64 0, .int .i64 0] : Array Value)[i]?) ∧ Below w.heap.size w w')
                (first
                  | exact ⟨GZ.cell, GW⟩
                  | (go_keep; done))
                (first
                  | (go_at_call 32; refine (HP1.out _ GP).mono ?_; rintro e w5 ⟨rfl, hBn, hkn⟩; have GZ := GZ.but hkn hz3; have GR := GR.but hkn hgg3; have GW := GW.trans (hkn.below GW.size (by intro j h; have : j = g := h; omega)); have GP := hBn)
                  | (go_at_call 33; refine (HP2.out _ GR).mono ?_; rintro e w6 ⟨rfl, hBn, hkn⟩; have GZ := GZ.but hkn hz4; have GP := GP.but hkn hgg2; have GW := GW.trans (hkn.below GW.size (by intro j h; have : j = g' := h; omega)); have GR := hBn)
                  | (go_at_call 16; refine (error_any E E _ (HG.out.below GW) HEI.out).mono ?_; rintro e w7 ⟨rfl, hbn⟩; have GZ := GZ.below hbn; have GP := GP.below hbn; have GR := GR.below hbn; have GW := grow_step GW hbn))
              all_goals
                go_wp2_with fail
                go_meet
                exact ⟨j, s', by simp, by go_num, by omega, HV', Lib.hid GP, Lib.hid GR, GW⟩
          · by_cases y1 : y = 1
            · subst y1
              obtain ⟨E, hE⟩ : ∃ E, goodE s = E := ⟨_, rfl⟩
              obtain ⟨s', hs'⟩ : ∃ s', goodS s = s' := ⟨_, rfl⟩
              have HV' : Hid (Inv s') := Lib.hid (by rw [← hs']; exact HV.out.goodS)
              have HEI : Hid (I64 E) := Lib.hid (by rw [← hE]; exact goodE_bd s)
              have HP1 := Lib.hid (fun w hB => goodC g s w hB)
              have HP2 := Lib.hid (fun w hB => rgoodC g' s w hB)
              rw [hE, hs'] at HP1 HP2
              clear hE hs'
              go_wp2_with fail
              refine (HP1.out _ HB.out).mono ?_
              rintro e w5 ⟨rfl, hB5, hk5⟩
              have HB5 := Lib.hid hB5
              have HR5 := Lib.hid (HR.out.but hk5 hgg3)
              have hbw5 : Below w.heap.size w w5 := hbr.trans (hk5.below hbr.size (by intro j h; have : j = g := h; omega))
              clear hB5 hk5
              go_wp2_with fail
              refine (HP2.out _ HR5.out).mono ?_
              rintro e w6 ⟨rfl, hR6, hk6⟩
              have HR6 := Lib.hid hR6
              have HB6 := Lib.hid (HB5.out.but hk6 hgg2)
              have hbw6 : Below w.heap.size w w6 := hbw5.trans (hk6.below hbw5.size (by intro j h; have : j = g' := h; omega))
              clear hR6 hk6
              go_wp2_with fail
              refine (error_any E E _ (HG.out.below hbw6) HEI.out).mono ?_
              rintro e w7 ⟨rfl, hb7⟩
              rw [show (E == E) = true by simp]
              go_wp2_with fail
              go_meet
              exact ⟨j, s', rfl, rfl, hj, HV', Lib.hid (HB6.out.below hb7), Lib.hid (HR6.out.below hb7), grow_step hbw6 hb7⟩
            · have yy0 : (y == 0) = false := by simp [y0]
              have yy1 : (y == 1) = false := by simp [y1]
              obtain ⟨b1_, b2_, b3_, b4_, b5_, b6_, b7_, b8_⟩ := HV.out.at_ s.pick
              obtain ⟨⟨pn, pv, pc, pp, pa, pf, pt, pg⟩, hz⟩ : ∃ z, s.at_ s.pick = z := ⟨_, rfl⟩
              obtain ⟨s', hs'⟩ : ∃ s', startS s = s' := ⟨_, rfl⟩
              have HV' : Hid (Inv s') := Lib.hid (by rw [← hs']; exact HV.out.startS)
              have HP1 := Lib.hid (fun w hB => startC g s w hB HV.out)
              have HP2 := Lib.hid (fun w hB => rstartC g' s w hB HV.out)
              rw [hz, hs'] at HP1 HP2
              rw [hz] at b1_ b2_ b3_ b4_ b5_ b6_ b7_ b8_
              simp only at b4_ b5_ b6_ b7_ b8_
              have q1 := fun w => eqSg pn pv pc pp pa b4_ b5_ b6_ b7_ b8_ w
              have q2 := fun o q w => guardSg (.string pn) (.int .i64 pv) (.string pc) (.int .i64 pp) (.int .i64 pa) (.string pn) (.int .i64 pv) (.string pc) (.int .i64 pp) (.int .i64 pa) .eql o q w
              clear y0 y1 hz hs' b1_ b2_ b3_ b4_ b5_ b6_ b7_ b8_
              go_wp2_with fail
              refine (HP1.out _ HB.out).mono ?_
              rintro e w5 ⟨rfl, hB5, hk5⟩
              have HB5 := Lib.hid hB5
              have HR5 := Lib.hid (HR.out.but hk5 hgg3)
              have hbw5 : Below w.heap.size w w5 := hbr.trans (hk5.below hbr.size (by intro j h; have : j = g := h; omega))
              clear hB5 hk5
              go_wp2_with fail
              refine (HP2.out _ HR5.out).mono ?_
              rintro e w6 ⟨rfl, hR6, hk6⟩
              have HR6 := Lib.hid hR6
              have HB6 := Lib.hid (HB5.out.but hk6 hgg2)
              have hbw6 : Below w.heap.size w w6 := hbw5.trans (hk6.below hbw5.size (by intro j h; have : j = g' := h; omega))
              clear hR6 hk6
              simp only [Slt.im]
              go_wp2_with fail
              go_meet
              exact ⟨j, s', rfl, rfl, hj, HV', HB6, HR6, hbw6⟩
        case rest =>
          obtain ⟨j', s', rfl, rfl, hj', HV', HB', HR', hbx⟩ := hcut
          obtain ⟨P, hP⟩ : ∃ P, s'.pick = P := ⟨_, rfl⟩
          obtain ⟨_, _, _, x4, x5, x6, x7, x8⟩ := HV'.out.x
          obtain ⟨_, _, _, y4, y5, y6, y7, y8⟩ := HV'.out.y
          have tx : I64 s'.x.t := ⟨by have := HV'.out.x.2.1; omega, by have := HV'.out.x.2.2.1; omega⟩
          have ty : I64 s'.y.t := ⟨by have := HV'.out.y.2.1; omega, by have := HV'.out.y.2.2.1; omega⟩
          have HP := Lib.hid hP
          clear hP
          obtain ⟨⟨n0, v0, c0, p0, a0, f0, t0, g0⟩, ⟨n1, v1, c1, p1, a1, f1, t1, g1_⟩, r⟩ := s'
          simp only at x4 x5 x6 x7 x8 y4 y5 y6 y7 y8 tx ty
          have q1 := fun w => neSl n0 v0 c0 p0 a0 f0 t0 g0 x4 x5 x6 x7 x8 tx w
          have q3 := fun w => neSl n1 v1 c1 p1 a1 f1 t1 g1_ y4 y5 y6 y7 y8 ty w
          have q2 := fun (x0 x1 x2 x3 x4 x5 x6 x7 y0 y1 y2 y3 y4 y5 y6 y7 : Value) o q w => guardSl x0 x1 x2 x3 x4 x5 x6 x7 y0 y1 y2 y3 y4 y5 y6 y7 .neq o q w
          clear x4 x5 x6 x7 x8 y4 y5 y6 y7 y8 tx ty
          go_wp2_with fail
          refine (at0P g _ _ _ _ HB'.out).mono ?_
          rintro e w5 ⟨rfl, hb5⟩
          have HB5 := Lib.hid ((HB'.out.below hb5).alloc_ (.cells #[.string n0, .int .i64 v0, .string c0, .int .i64 p0, .int .i64 a0, .bool f0, .int .i64 t0, .bool g0] 58))
          have HR5 := Lib.hid ((HR'.out.below hb5).alloc_ (.cells #[.string n0, .int .i64 v0, .string c0, .int .i64 p0, .int .i64 a0, .bool f0, .int .i64 t0, .bool g0] 58))
          have HX5 := Lib.hid (Box.new w5 58 #[.string n0, .int .i64 v0, .string c0, .int .i64 p0, .int .i64 a0, .bool f0, .int .i64 t0, .bool g0])
          have hbw5 : Below w.heap.size w w5 := grow_step hbx hb5
          clear hb5
          simp only
          go_wp2_with fail
          refine (at1P g _ _ _ _ HB5.out).mono ?_
          rintro e w6 ⟨rfl, hb6⟩
          have HB6 := Lib.hid ((HB5.out.below hb6).alloc_ (.cells #[.string n1, .int .i64 v1, .string c1, .int .i64 p1, .int .i64 a1, .bool f1, .int .i64 t1, .bool g1_] 58))
          have HR6 := Lib.hid ((HR5.out.below hb6).alloc_ (.cells #[.string n1, .int .i64 v1, .string c1, .int .i64 p1, .int .i64 a1, .bool f1, .int .i64 t1, .bool g1_] 58))
          have HX6 := Lib.hid ((HX5.out.below hb6).alloc_ (.cells #[.string n1, .int .i64 v1, .string c1, .int .i64 p1, .int .i64 a1, .bool f1, .int .i64 t1, .bool g1_] 58))
          have HY6 := Lib.hid (Box.new w6 58 #[.string n1, .int .i64 v1, .string c1, .int .i64 p1, .int .i64 a1, .bool f1, .int .i64 t1, .bool g1_])
          have hbw6 : Below w.heap.size w w6 := grow_step (grow_alloc hbw5 _) hb6
          obtain ⟨b0', off', e', _, hcc6⟩ := (HA.out.below (grow_alloc hbw6 (.cells #[.string n1, .int .i64 v1, .string c1, .int .i64 p1, .int .i64 a1, .bool f1, .int .i64 t1, .bool g1_] 58))) k hlt
          injection e' with e'
          injection e' with qa qb
          subst qa
          subst qb
          rw [HY.out] at hcc6
          clear hb6 HB5 HR5 HX5
          simp only
          go_wp2_with fail
          refine (atC g _ _ _ HB6.out).mono ?_
          rintro e w7 ⟨z, rfl, hb7⟩
          obtain ⟨X, hX⟩ : ∃ X, atE (wrap64 (y + 2)) = X := ⟨_, rfl⟩
          rw [hX]
          have HX := Lib.hid hX
          have hk7 : KeepP w w5.heap.size w6.heap.size g g' ⟨⟨n0, v0, c0, p0, a0, f0, t0, g0⟩, ⟨n1, v1, c1, p1, a1, f1, t1, g1_⟩, r⟩ ((w7.alloc (.cells z.cs 58)).drew) := ⟨((HX6.out.below hb7).alloc_ _).drew_, ((HY6.out.below hb7).alloc_ _).drew_, ((HB6.out.below hb7).alloc_ _).drew_, ((HR6.out.below hb7).alloc_ _).drew_, grow_drew (grow_alloc (grow_step (grow_alloc hbw6 _) hb7) _)⟩
          obtain ⟨b0', off', e', hb0, hcw⟩ := HA.out k hlt
          injection e' with e'
          injection e' with qa qb
          subst qa
          subst qb
          rw [HY.out] at hcw
          have HCW := Lib.hid hcw
          have rp : (rI P != rI P) = false := by simp
          clear hX hcw hb7 HB6 HR6 HX6 HY6 hcc6 hcc HB' HR' hbw6 hbw5
          simp only [Slt.cs]
          simp only [Slt.cs] at hk7
          by_cases hy0 : 0 ≤ y
          · have hx1 : X = 1 := by rw [← HX.out]; exact atE_far hy0 (by have h := HI64.out k hlt; rw [HY.out] at h; exact h.2)
            subst hx1
            go_wp2_with fail
            go_region_held3 (fun w' => (∀ i, w'.cell? ⟨w5.heap.size, i, none⟩ = (#[.string n0, .int .i64 v0, .string c0, .int .i64 p0, .int .i64 a0, .bool f0, .int .i64 t0, .bool g0] : Array Value)[i]?) ∧ (∀ i, w'.cell? ⟨w6.heap.size, i, none⟩ = (#[.string n1, .int .i64 v1, .string c1, .int .i64 p1, .int .i64 a1, .bool f1, .int .i64 t1, .bool g1_] : Array Value)[i]?) ∧ (∀ i, w'.cell? ⟨g', i, none⟩ = (#[.string n0, .int .i64 v0, .string c0, .int .i64 p0, .int .i64 a0, .bool f0, .int .i64 t0, .bool g0, .string n1, .int .i64 v1, .string c1, .int .i64 p1, .int .i64 a1, .bool f1, .int .i64 t1, .bool g1_, .int .i64 (rI r)] : Array Value)[i]?) ∧ w'.cell? ⟨b0, off + k, none⟩ = some (.int .i64 y) ∧ KeepP w w5.heap.size w6.heap.size g g' ⟨⟨n0, v0, c0, p0, a0, f0, t0, g0⟩, ⟨n1, v1, c1, p1, a1, f1, t1, g1_⟩, r⟩ w')
              (first
                | exact ⟨E1.1.cell, E1.2.1.cell, by have h := E1.2.2.2.1.cell; simp only [Slts.cs] at h; exact h, (E1.2.2.2.2.cell (p := ⟨b0, off + k, none⟩) hb0).trans HCW.out, E1⟩
                | exact ⟨hk7.1.cell, hk7.2.1.cell, by have h := hk7.2.2.2.1.cell; simp only [Slts.cs] at h; exact h, (hk7.2.2.2.2.cell (p := ⟨b0, off + k, none⟩) hb0).trans HCW.out, hk7⟩
                | (go_keep; done))
              (first
                | (go_at_call 16; go_split_ands; have p1 : KeepP w w5.heap.size w6.heap.size g g' ⟨⟨n0, v0, c0, p0, a0, f0, t0, g0⟩, ⟨n1, v1, c1, p1, a1, f1, t1, g1_⟩, r⟩ _ := (by assumption); refine (error_any 1 1 _ (HG.out.below p1.2.2.2.2) (i64_small (by decide) (by decide))).mono ?_; rintro e w8 ⟨rfl, hb8⟩; have E1 := p1.below hb8; clear p1)
                | (go_at_call 28; go_split_ands; have p1 : KeepP w w5.heap.size w6.heap.size g g' ⟨⟨n0, v0, c0, p0, a0, f0, t0, g0⟩, ⟨n1, v1, c1, p1, a1, f1, t1, g1_⟩, r⟩ _ := (by assumption); refine (pick_at g _ P _ p1.2.2.1 HP.out).mono ?_; rintro e w8 ⟨rfl, hb8⟩; have E1 := p1.below hb8; clear p1)
                | (go_at_call 36; go_split_ands; have p1 : KeepP w w5.heap.size w6.heap.size g g' ⟨⟨n0, v0, c0, p0, a0, f0, t0, g0⟩, ⟨n1, v1, c1, p1, a1, f1, t1, g1_⟩, r⟩ _ := (by assumption); refine (rpick_at g' _ P _ p1.2.2.2.1 HP.out).mono ?_; rintro e w8 ⟨rfl, hb8⟩; have E1 := p1.below hb8; clear p1))
            go_wp2_with fail
            go_roundw
            case rel => exact ⟨k + 1, j', ⟨⟨n0, v0, c0, p0, a0, f0, t0, g0⟩, ⟨n1, v1, c1, p1, a1, f1, t1, g1_⟩, r⟩, by omega, hj', by first | rfl | simp, by go_num, by go_num, HV', Lib.hid E1.2.2.1, Lib.hid E1.2.2.2.1, E1.2.2.2.2⟩
            case measure => simp [intOf]; omega
          · have hy1 : y < 0 := by omega
            have hyd : decide (0 ≤ y) = false := by simp; omega
            go_wp2_with fail
            refine region_quiet (fun w' => KeepP w w5.heap.size w6.heap.size g g' ⟨⟨n0, v0, c0, p0, a0, f0, t0, g0⟩, ⟨n1, v1, c1, p1, a1, f1, t1, g1_⟩, r⟩ w') (by kernel_rfl) (by kernel_rfl) hk7 ?_
            repeat (go_big_quiet_step (first
              | (intro hC; rfl)
              | (intro hC; go_at_call 28; exact quiet_class (pick_at g _ P _ hC.2.2.1 HP.out) (fun w' hb => hC.below hb))
              | (intro hC; go_at_call 36; exact quiet_class (rpick_at g' _ P _ hC.2.2.2.1 HP.out) (fun w' hb => hC.below hb))
              | (intro hC; have cX := hC.1.cell; have cY := hC.2.1.cell; have cR := hC.2.2.2.1.cell; simp only [Slts.cs] at cR; simp only [Slt.cs] at cX cY; have cD := (hC.2.2.2.2.cell (p := ⟨b0, off + k, none⟩) hb0).trans HCW.out; simp only [cX, cY, cR, cD]; rfl)
              | (intro hC; have cX := hC.1.cell; have cY := hC.2.1.cell; have cR := hC.2.2.2.1.cell; simp only [Slts.cs] at cR; simp only [Slt.cs] at cX cY; have cD := (hC.2.2.2.2.cell (p := ⟨b0, off + k, none⟩) hb0).trans HCW.out; simp [cX, cY, cR, cD]; try rfl)))
            refine wpQuiet_nil ?_
            intro w8 E1
            go_wp2_with fail
            go_roundw
            case rel => exact ⟨k + 1, j', ⟨⟨n0, v0, c0, p0, a0, f0, t0, g0⟩, ⟨n1, v1, c1, p1, a1, f1, t1, g1_⟩, r⟩, by omega, hj', by first | rfl | simp, by go_num, by go_num, HV', Lib.hid E1.2.2.1, Lib.hid E1.2.2.2.1, E1.2.2.2.2⟩
            case measure => simp [intOf]; omega
      · go_wp2_with fail
        go_ret
        exact ⟨rfl, hbr⟩
    · go_wp2_with fail
      go_ret
      exact ⟨rfl, hbr⟩

set_option maxRecDepth 100000 in
theorem slotPlays_walks (H : Type) (enc : TypeId × Value → H) : WalksD enc Tryd.prog Door 8 Tryd.f8 := by
  intro W base args ds p hval hA hlt hsz hsh hdoor
  have hsz0 := hsz
  rw [Tryd.params8] at hA hval
  obtain ⟨v0, vs0, d0, ds0, p0, q0, hargs, rfl, rfl, h0, r0⟩ := trodAll_cons hA
  obtain ⟨v1, vs1, d1, ds1, p1, q1, rfl, rfl, rfl, h1, r1⟩ := trodAll_cons r0
  obtain ⟨v2, vs2, d2, ds2, p2, q2, rfl, rfl, rfl, h2, r2⟩ := trodAll_cons r1
  obtain ⟨rfl, rfl, rfl⟩ := trodAll_nil r2
  obtain rfl : args = #[v0, v1, v2] := by cases args; simp_all
  obtain ⟨a0, b0, c0, p0_, q0_, rfl, w0, u0, z0, y0, t0⟩ := op_signed (hval 0 53 v0 rfl rfl) h0 (w_each hsz 0 53 _ (by rw [Tryd.params8]; rfl) rfl)
  obtain ⟨A1, a1, c1, rfl, w1, i1, z1⟩ := op_ints (hval 1 36 v1 rfl rfl) h1 (fun x hx => hlt x (by simp [hx])) (w_each hsz 1 36 _ (by rw [Tryd.params8]; rfl) rfl)
  obtain ⟨A2, a2, c2, rfl, w2, z2, y2, g2⟩ := op_signeds (hval 2 65 v2 rfl rfl) h2 (fun x hx => hlt x (by simp [hx])) (w_each hsz 2 65 _ (by rw [Tryd.params8]; rfl) rfl)
  exact slotPlays_walk W a0 b0 c0 p0_ q0_ A1 a1 c1 A2 a2 c2 w0 u0 z0 y0 t0 w1 i1 z1 w2 z2 y2 g2 hdoor

set_option maxRecDepth 100000 in
theorem slotPlays_lifted (os : Os) (started : os.Started) (H : Type) (enc : TypeId × Value → H) :
    ReturnsInHanded {} Tryd.checked os 8 .any (fun w args => (Rows.slotPlaysSpec.pre enc Tryd.checked.prog Tryd.f8 [] false w args ∧ laidMetH Tryd.checked.prog LaidD w) ∧ sizedMet enc Tryd.checked.prog Tryd.f8 (OpenSpec.ofChange Rows.slotPlaysSpec) false w args) (Rows.slotPlaysSpec.post enc Tryd.checked.prog Tryd.f8 false true false false) :=
  returns_of_walkD (C := Tryd.checked) (s := Rows.slotPlaysSpec) (L := LaidD) (D := Door) own started (by kernel_rfl) Tryd.func8
    (ChangeSpec.witness_at (enc := enc) (C := Tryd.checked) (os := os) (X := fun w _ => laidMetH Tryd.prog LaidD w) false (laidWorld os) #[.agg #[.string ⟨#[]⟩, .int .i64 0, .string ⟨#[]⟩, .int .i64 0, .int .i64 0], .slice none 0 0, .slice none 0 0] 8 rfl (by kernel_rfl) (by kernel_rfl) (by kernel_rfl) (by kernel_rfl) (by kernel_rfl) (laidWorld_met os _))
    (fun W h => door_of_laid h) laidOut (by kernel_rfl) rfl Tryd.underlying4 rfl (fun ds h => by match ds, h with | [_, _, _], _ => rfl) (slotPlays_walks H enc)

theorem slotPlays_bare : Rows.SlotPlaysSaid :=
  OpenClaim.holds_of_wide 8 Tryd.f8 rfl rfl rfl rfl rfl rfl rfl ⟨rfl, rfl, rfl, rfl, rfl⟩ rfl rfl rfl rfl rfl (by kernel_rfl) Tryd.func8 (by kernel_rfl)
    (of_decide_eq_true (by kernel_rfl)) (by unfold Func.isWrapper; rw [if_neg (of_decide_eq_false (by kernel_rfl))]; exact ⟨rfl, rfl⟩)
    (fun os started H enc _ => slotPlays_lifted os started H enc)

theorem slotPlays_holds : Rows.SlotPlaysCardSaid :=
  Claim7.holds_tied_plain_at .later [] [.handle] true Rows.slotPlaysCard.stood.harness true
    slotPlays_bare (fun _ h => by cases h) (by kernel_rfl) (fun _ h => by cases h) slotPlays_row_tie rfl ⟨rfl, rfl⟩ (by kernel_rfl) rfl
    (fun f fn hf hfn => by
      obtain rfl : f = 8 := Option.some.inj ((show Tryd.prog.funcNamed "bootstair/stairlaw2.SlotPlays" = some 8 by kernel_rfl).symm.trans hf) |>.symm
      obtain rfl : fn = Tryd.f8 := (Option.some.inj (Tryd.func8.symm.trans hfn)).symm
      exact ⟨by kernel_rfl, fun j t ht => by
        have hm : t ∈ Tryd.f8.params.toList := by simpa using Array.mem_of_getElem? ht
        have hall : (Tryd.f8.params.toList.all fun u => !Tryd.prog.wantsStandIn u) = true := by kernel_rfl
        exact (show Tryd.prog.wantsStandIn t = false by simpa using List.all_eq_true.1 hall t hm)⟩)
    (by kernel_rfl)

end Go.Proofs.YtnocigkfhdnhfaaDoor
