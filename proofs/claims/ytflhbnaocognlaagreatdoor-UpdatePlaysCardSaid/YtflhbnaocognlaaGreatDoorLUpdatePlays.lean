/- UpdatePlays: whether any update may be done, and any done, as the reference says. The listed package variables hold what the program's text lays. -/
import Derived.Test.YtflhbnaocognlaaGreatDoorRows
import Derived.Test.YtflhbnaocognlaaGreatDoorOpen
import Derived.Test.YtflhbnaocognlaaGreatDoorOpI
import Derived.Test.YtflhbnaocognlaaGreatDoorOpStr
import Derived.Test.YtflhbnaocognlaaGreatDoorOpC
import Derived.Test.YtflhbnaocognlaaGreatDoorNum
import Derived.Test.YtflhbnaocognlaaGreatDoorBase
import Derived.Test.YtflhbnaocognlaaGreatDoorCert
import Derived.Test.YtflhbnaocognlaaGreatDoorImg
import Derived.Test.YtflhbnaocognlaaGreatDoorImg2
import Derived.Test.YtflhbnaocognlaaGreatDoorSign
import Derived.Test.YtflhbnaocognlaaGreatDoorRefI
import Derived.Test.YtflhbnaocognlaaGreatDoorRefK2
import Derived.Test.YtflhbnaocognlaaGreatDoorRefS2
import Derived.Test.YtflhbnaocognlaaGreatDoorFoot
import Derived.Test.YtflhbnaocognlaaGreatDoorSlot
import Derived.Test.YtflhbnaocognlaaGreatDoorRSlot
import Derived.Test.YtflhbnaocognlaaGreatDoorSInv
import Derived.Test.YtflhbnaocognlaaGreatDoorCntP
import Derived.Test.YtflhbnaocognlaaGreatDoorCntR
import Derived.Test.YtflhbnaocognlaaGreatDoorUpdP
import Derived.Test.YtflhbnaocognlaaGreatDoorQuietC
import Derived.Test.YtflhbnaocognlaaGreatDoorSlot2
import Derived.Test.YtflhbnaocognlaaGreatDoorSgEq
import Derived.Test.YtflhbnaocognlaaGreatDoorCount3
import Derived.Test.YtflhbnaocognlaaGreatDoorCntC
import Derived.Test.YtflhbnaocognlaaGreatDoorFootC
import Derived.Test.YtflhbnaocognlaaGreatDoorUpd
import Derived.Test.YtflhbnaocognlaaGreatDoorUpd2
import Derived.Test.YtflhbnaocognlaaGreatDoorRUpd
import Derived.Test.YtflhbnaocognlaaGreatDoorRUpd2
import Derived.Test.YtflhbnaocognlaaGreatDoorTold
import Derived.Test.YtflhbnaocognlaaGreatDoorBds
import Derived.Test.YtflhbnaocognlaaGreatDoorLiftD
import Derived.Test.YtflhbnaocognlaaGreatDoorLiftT
import Derived.WalkKit
import Derived.WalkSpells
import Derived.Lib.Hide
import Derived.Deep.DeepCutAuto
import Derived.Deep.CutBlock
import Derived.Deep.CutRange
import Derived.Deep.RegionHeld3
import Derived.Deep.QuietTactic
import Derived.BigQuiet
import Derived.RegionTactic
import Derived.BigRegion
namespace Go.Proofs.YtflhbnaocognlaaGreatDoor
open Go.ChangeShapes Go.WideShapes Go.ChangeAt Go.RowKit
set_option linter.unusedVariables false
set_option linter.unusedSimpArgs false
set_option maxRecDepth 100000

theorem hasL_nil3 : hasL [] = fun _ => false := by funext t; rfl
theorem ofL_nil3 : ofL [] = fun _ => 0 := by funext t; rfl
theorem new_c3 (w : World) :
    Calls Tryz.prog 4 #[] w fun e w' => ∃ b : Nat, e = .returned (.pointer (some ⟨b + 1, 0, none⟩)) ∧ w.heap.size ≤ b ∧ b + 1 < w'.heap.size ∧ CE w' b 0 [] ∧ Below w.heap.size w w' := by
  refine (countNewE_any w).mono ?_
  rintro e w' ⟨rfl, h, hb⟩
  refine ⟨_, rfl, Nat.le_refl _, ?_, ?_, hb⟩
  · obtain ⟨D, h1, _⟩ := h
    exact h1.lt
  · unfold CE
    rw [hasL_nil3, ofL_nil3]
    exact h
theorem below_from3 {g : Nat} {w w' : World} (h : Below g w w') : But (fun k => g ≤ k) w w' := ⟨h.os, h.tape, h.output, h.size, fun k _ hn => h.block k (by omega)⟩
theorem CE.lt_ {w : World} {b n : Nat} {ls : List Cnt} (h : CE w b n ls) : b + 1 < w.heap.size := by
  obtain ⟨D, h1, _⟩ := h
  exact h1.lt
theorem at0U (g : Nat) (x y : Slt) (r : Bool) (w : World) (hB : Box w g 76 (Slts.mk x y r).cs) :
    Calls Tryz.prog 19 #[.pointer (some ⟨g, 0, none⟩), .int .i64 0] w fun e w' => e = .returned (.tuple #[.agg #[.string x.n, .int .i64 x.v, .string x.c, .int .i64 x.p, .int .i64 x.a, .bool x.f, .int .i64 x.t, .bool x.g], errV 0]) ∧ Below w.heap.size w w' := at_any g ⟨x, y, r⟩ false w hB
theorem at1U (g : Nat) (x y : Slt) (r : Bool) (w : World) (hB : Box w g 76 (Slts.mk x y r).cs) :
    Calls Tryz.prog 19 #[.pointer (some ⟨g, 0, none⟩), .int .i64 1] w fun e w' => e = .returned (.tuple #[.agg #[.string y.n, .int .i64 y.v, .string y.c, .int .i64 y.p, .int .i64 y.a, .bool y.f, .int .i64 y.t, .bool y.g], errV 0]) ∧ Below w.heap.size w w' := at_any g ⟨x, y, r⟩ true w hB
/-- What the first loop keeps. -/
def KeepV (w0 : World) (b n g : Nat) (ls : List Cnt) (o : Array Value) (w : World) : Prop := CE w b n ls ∧ RCnt w g ls ∧ Box w w0.heap.size 30 o ∧ Below w0.heap.size w0 w
theorem KeepV.below {w0 : World} {b n g : Nat} {ls : List Cnt} {o : Array Value} {w w' : World} (h : KeepV w0 b n g ls o w) (hb : Below w.heap.size w w') : KeepV w0 b n g ls o w' := ⟨h.1.below hb, h.2.1.below hb, h.2.2.1.below hb, grow_step h.2.2.2 hb⟩
/-- What the second loop keeps. -/
def KeepW (w0 : World) (b n gc u g g2 : Nat) (ls : List Cnt) (s : Slts) (o : Array Value) (w : World) : Prop :=
  CE w b n ls ∧ RC2 w gc u ls ∧ Box w g 76 (s.cs) ∧ Box w g2 64 (s.cs) ∧ Box w w0.heap.size 30 o ∧ Below w0.heap.size w0 w
theorem KeepW.below {w0 : World} {b n gc u g g2 : Nat} {ls : List Cnt} {s : Slts} {o : Array Value} {w w' : World} (h : KeepW w0 b n gc u g g2 ls s o w) (hb : Below w.heap.size w w') : KeepW w0 b n gc u g g2 ls s o w' :=
  ⟨h.1.below hb, h.2.1.below hb, h.2.2.1.below hb, h.2.2.2.1.below hb, h.2.2.2.2.1.below hb, grow_step h.2.2.2.2.2 hb⟩
theorem KeepW.prog {w0 : World} {b n gc u g g2 : Nat} {ls : List Cnt} {s s' : Slts} {o : Array Value} {w w' : World} (h : KeepW w0 b n gc u g g2 ls s o w) (hB : Box w' g 76 (s'.cs)) (k : But (fun j => j = g) w w') (q1 : b + 1 < u) (q2 : u ≤ g) (q3 : g < g2) (q4 : w0.heap.size < u) :
    CE w' b n ls ∧ RC2 w' gc u ls ∧ Box w' g 76 (s'.cs) ∧ Box w' g2 64 (s.cs) ∧ Box w' w0.heap.size 30 o ∧ Below w0.heap.size w0 w' :=
  ⟨h.1.but k (by intro e; have : b = g := e; omega) (by intro e; have : b + 1 = g := e; omega), h.2.1.but k (fun j hj e => by have : j = g := e; omega), hB, h.2.2.2.1.but k (by intro e; have : g2 = g := e; omega), h.2.2.2.2.1.but k (by intro e; have : w0.heap.size = g := e; omega), h.2.2.2.2.2.trans (k.below h.2.2.2.2.2.size (by intro j e; have : j = g := e; omega))⟩
theorem keepW_ref {w0 : World} {b n gc u g g2 : Nat} {ls : List Cnt} {s s' : Slts} {o : Array Value} {w w' : World} (h : CE w b n ls ∧ RC2 w gc u ls ∧ Box w g 76 (s'.cs) ∧ Box w g2 64 (s.cs) ∧ Box w w0.heap.size 30 o ∧ Below w0.heap.size w0 w) (hB : Box w' g2 64 (s'.cs)) (k : But (fun j => j = g2) w w') (q1 : b + 1 < u) (q2 : u ≤ g) (q3 : g < g2) (q4 : w0.heap.size < u) :
    KeepW w0 b n gc u g g2 ls s' o w' :=
  ⟨h.1.but k (by intro e; have : b = g2 := e; omega) (by intro e; have : b + 1 = g2 := e; omega), h.2.1.but k (fun j hj e => by have : j = g2 := e; omega), h.2.2.1.but k (by intro e; have : g = g2 := e; omega), hB, h.2.2.2.2.1.but k (by intro e; have : w0.heap.size = g2 := e; omega), h.2.2.2.2.2.trans (k.below h.2.2.2.2.2.size (by intro j e; have : j = g2 := e; omega))⟩

set_option maxHeartbeats 8000000 in
theorem updatePlays_walk (w : World) (root : Int) (A : Option Addr) (cs : List (Int × Int × Int)) (c : Nat) (N : Option Addr) (ns : List ByteArray) (cn : Nat) (B : Option Addr) (l : List Int) (cl : Nat) (on : ByteArray) (ov : Int) (oc : ByteArray) (op oa : Int) (M : Option Addr) (ms : List Sgn) (cm : Nat) (D : Option Addr) (ds : List Int) (cd : Nat)
    (ir : I64 root) (hA : CertsAt w A cs) (hcz : cs.length * 24 ≤ 140737488351232) (hcc : cs.length ≤ c) (hN : StrsAt w N ns) (hnl : ns.length * 16 ≤ 140737488351232) (hnc : ns.length ≤ cn) (hns : ∀ i, i < ns.length → (ns.getD i ⟨#[]⟩).size ≤ 140737488351232)
    (hL : IntsAt w B l) (hli : ∀ x ∈ l, I64 x) (hll : l.length * 8 ≤ 140737488351232) (iov : I64 ov) (h1 : on.size ≤ 140737488351232) (h2 : oc.size ≤ 140737488351232) (iop : I64 op) (ioa : I64 oa)
    (hM : SgnsAt w M ms) (hmz : ms.length * 56 ≤ 140737488351232) (hmc : ms.length ≤ cm) (hms : ∀ i, i < ms.length → (ms.getD i noSgn).1.size ≤ 140737488351232 ∧ (ms.getD i noSgn).2.2.1.size ≤ 140737488351232 ∧ I64 (ms.getD i noSgn).2.1 ∧ I64 (ms.getD i noSgn).2.2.2.1 ∧ I64 (ms.getD i noSgn).2.2.2.2)
    (hD : IntsAt w D ds) (hdi : ∀ x ∈ ds, I64 x) (hdl : ds.length * 8 ≤ 140737488351232) (hg : TabTD w) :
    Calls Tryz.prog 3 #[.int .i64 root, .slice A cs.length c, .slice N ns.length cn, .slice B l.length cl, .agg #[.string on, .int .i64 ov, .string oc, .int .i64 op, .int .i64 oa], .slice M ms.length cm, .slice D ds.length cd] w fun e w' => e = .returned (.bool true) ∧ Below w.heap.size w w' := by
  have en := fun k w => err_neq k w
  have gn := fun o k w => err_guard_neq o k w
  have HG := Lib.hid hg.2
  have HT := Lib.hid hg.1
  have HA := Lib.hid hA
  have HN := Lib.hid hN
  have HL := Lib.hid hL
  have HM := Lib.hid hM
  have HD := Lib.hid hD
  have HNS := Lib.hid hns
  have HMS := Lib.hid hms
  have HO0 := Lib.hid (Box.new w 30 #[.string on, .int .i64 ov, .string oc, .int .i64 op, .int .i64 oa])
  clear hg hA hN hL hM hD hns hms hli hdi
  go_enter Tryz.func3, Tryz.ntmps3
  go_wp2_with fail
  refine (new_c3 _).mono ?_
  rintro e w1 ⟨b, rfl, hbw, hb1, hC1, hbw1⟩
  have b1 : Below w.heap.size w w1 := grow_step (grow_alloc (grow_refl _) _) hbw1
  have HV0 : Hid (KeepV w b 0 w1.heap.size [] #[.string on, .int .i64 ov, .string oc, .int .i64 op, .int .i64 oa] (w1.alloc (.cells #[.slice none 0 0] 37))) := Lib.hid ⟨hC1.below (grow_alloc (grow_refl _) _), ⟨none, 0, Box.new _ _ _, OwnC.start _ _ _ _⟩, (HO0.out.below hbw1).alloc_ _, grow_alloc b1 _⟩
  have hgw : w.heap.size ≤ w1.heap.size := b1.size
  have hwb : w.heap.size < b := by simp at hbw; omega
  clear hC1 hbw hbw1 HO0
  go_upto_block 0 with fail
  go_cut [] from 17 to 66 (fun wx => ∃ (n : Nat) (ls : List Cnt), n ≤ 20 ∧ ls.length ≤ 12 ∧ Hid (KeepV w b n w1.heap.size ls #[.string on, .int .i64 ov, .string oc, .int .i64 op, .int .i64 oa] wx))
  case first =>
    go_wp2_with fail
    go_loopw [17] (fun i wr => ∃ (k n : Nat) (ls : List Cnt), i = .int .i64 k ∧ k ≤ ns.length ∧ k ≤ 20 ∧ n ≤ k ∧ ls.length ≤ 12 ∧ Hid (KeepV w b n w1.heap.size ls #[.string on, .int .i64 ov, .string oc, .int .i64 op, .int .i64 oa] wr)) (fun i _ => ns.length - (intOf i).toNat)
    case atStart => exact ⟨0, 0, [], rfl, by omega, by omega, by omega, by simp, HV0⟩
    case round =>
      obtain ⟨k, n, ls, rfl, hk, hk20, hn, h12, HK⟩ := hrel
      by_cases c1 : k < ns.length
      rotate_left
      · have g1 : ¬ (k : Int) < (ns.length : Int) := by omega
        go_wp2_with fail
        go_meet
        exact ⟨n, ls, by omega, h12, HK⟩
      have g1 : (k : Int) < (ns.length : Int) := by omega
      by_cases c3 : k < l.length
      rotate_left
      · have g3 : ¬ (k : Int) < (l.length : Int) := by omega
        go_wp2_with fail
        go_meet
        exact ⟨n, ls, by omega, h12, HK⟩
      have g3 : (k : Int) < (l.length : Int) := by omega
      by_cases c4 : k < 20
      rotate_left
      · have g4 : ¬ (k : Int) < 20 := by omega
        go_wp2_with fail
        go_meet
        exact ⟨n, ls, by omega, h12, HK⟩
      have g4 : (k : Int) < 20 := by omega
      obtain ⟨bn, on_, rfl, lbn, hcn⟩ := HN.out k c1
      obtain ⟨bl, ol, rfl, lbl, hcl⟩ := HL.out k c3
      have hz := HNS.out k c1
      obtain ⟨nm, hnm⟩ : ∃ z, ns.getD k ⟨#[]⟩ = z := ⟨_, rfl⟩
      obtain ⟨x, hx⟩ : ∃ z, l.getD k 0 = z := ⟨_, rfl⟩
      rw [hnm] at hcn hz
      rw [hx] at hcl
      have HCN := Lib.hid hcn
      have HCL := Lib.hid hcl
      obtain ⟨ls', hls⟩ : ∃ ls', raiseL ls nm x = ls' := ⟨_, rfl⟩
      have h12' : ls'.length ≤ 12 := by rw [← hls]; exact raiseL_len _ _ h12
      have HM1 := Lib.hid (fun w h => cRaise_any b n ls nm x w h hz (by omega) h12)
      have HM2 := Lib.hid (fun w h => rRaise_any w1.heap.size ls nm x w h (by omega) h12)
      unfold RaisePost at HM2
      rw [hls] at HM1 HM2
      clear hnm hx hcn hcl hls HV0
      go_upto_region 6 with fail
      have GC := HK.out.1.below (grow_drew (grow_refl _))
      have GR := HK.out.2.1.below (grow_drew (grow_refl _))
      have GO := HK.out.2.2.1.below (grow_drew (grow_refl _))
      have GW := grow_drew HK.out.2.2.2
      go_region_held3 (fun w' => w'.cell? ⟨bn, on_ + k, none⟩ = some (.string nm) ∧ w'.cell? ⟨bl, ol + k, none⟩ = some (.int .i64 x) ∧ Below w.heap.size w w')
        (first
          | exact ⟨(GW.cell (p := ⟨bn, on_ + k, none⟩) lbn).trans HCN.out, (GW.cell (p := ⟨bl, ol + k, none⟩) lbl).trans HCL.out, GW⟩
          | (go_keep; done))
        (first
          | (go_at_call 5; refine (HM1.out _ GC).mono ?_; rintro e w6 ⟨rfl, ⟨n', hn', hC6⟩, hk6⟩; have GR := GR.but hk6 (by intro j hj h; have : j = b := h; omega); have GO := GO.but hk6 (by intro h; have : w.heap.size = b := h; omega); have GC := hC6; have GW := GW.trans (hk6.below GW.size (by intro j h; have : j = b := h; omega))))
      go_upto_region 7 with fail
      have GC2 := GC.below (grow_drew (grow_refl _))
      have GR2 := GR.below (grow_drew (grow_refl _))
      have GO2 := GO.below (grow_drew (grow_refl _))
      have GW2 := grow_drew GW
      clear GC GR GW GO
      go_region_held3 (fun w' => w'.cell? ⟨bn, on_ + k, none⟩ = some (.string nm) ∧ w'.cell? ⟨bl, ol + k, none⟩ = some (.int .i64 x) ∧ Below w.heap.size w w')
        (first
          | exact ⟨(GW2.cell (p := ⟨bn, on_ + k, none⟩) lbn).trans HCN.out, (GW2.cell (p := ⟨bl, ol + k, none⟩) lbl).trans HCL.out, GW2⟩
          | (go_keep; done))
        (first
          | (go_at_call 6; refine (HM2.out _ GR2).mono ?_; rintro e w5 ⟨rfl, hR5, hb5⟩; have GC2 := GC2.but (below_from3 hb5) (by omega) (by omega); have GO2 := GO2.but (below_from3 hb5) (by omega); have GR2 := hR5; have GW2 := GW2.trans (hb5.mono hgw)))
      go_wp2_with fail
      go_roundw
      case rel => exact ⟨k + 1, n', ls', by go_num, by omega, by omega, by omega, h12', Lib.hid ⟨GC2, GR2, GO2, GW2⟩⟩
      case measure => simp [intOf]; omega
  case rest =>
    clear HV0
    obtain ⟨n, ls, hn, h12, HK⟩ := hcut
    have cO := HK.out.2.2.1.cell
    have lO := HK.out.2.2.1.lt
    by_cases h0 : imgE on ov oc = 0
    rotate_left
    · obtain ⟨E, hE⟩ : ∃ E, imgE on ov oc = E := ⟨_, rfl⟩
      have HS := Lib.hid (fun w => slotNew_no on ov oc op oa w (by omega) (by omega) h0)
      have HE := Lib.hid hE
      rw [hE] at h0 HS
      have t : (E != 0) = true := by simp [h0]
      clear hE h0
      go_wp2_with fail
      refine (HS.out _).mono ?_
      rintro e w2 ⟨rfl, hb2⟩
      have HK2 := Lib.hid (HK.out.below hb2)
      have cO := HK2.out.2.2.1.cell
      have lO := HK2.out.2.2.1.lt
      clear hb2
      go_wp2_with fail
      refine (imgCheck_any on ov oc _ (by omega) (by omega)).mono ?_
      rintro e w3 ⟨rfl, hb3⟩
      rw [HE.out]
      go_wp2_with fail
      go_ret
      exact ⟨rfl, grow_step HK2.out.2.2.2 hb3⟩
    have HI := Lib.hid h0
    clear h0
    go_wp2_with fail
    refine (slotNew_yes on ov oc op oa _ (by omega) (by omega) HI.out).mono ?_
    rintro e w3 ⟨g, rfl, hB3, hg3, hb3⟩
    have hr2 := RC2.of HK.out.2.1
    have hbu := HK.out.1.lt_
    have hwu := HK.out.2.2.1.lt
    obtain ⟨u, hu⟩ : ∃ u, wc.heap.size = u := ⟨_, rfl⟩
    rw [hu] at hr2 hbu hwu hg3
    have HR3 := Lib.hid (hr2.below hb3)
    have HB3 : Hid (Box w3 g 76 (Slts.cs ⟨⟨on, ov, oc, op, oa, true, 0, true⟩, noSlt, false⟩)) := Lib.hid hB3
    have HC3 := Lib.hid (HK.out.1.below hb3)
    have HO3 := Lib.hid (HK.out.2.2.1.below hb3)
    have b3 : Below w.heap.size w w3 := grow_step HK.out.2.2.2 hb3
    have cO := HO3.out.cell
    have lO := HO3.out.lt
    clear hr2 hB3 hb3 HK hu
    go_wp2_with fail
    refine (rslotNew on ov oc op oa _).mono ?_
    rintro e w4 ⟨g2, rfl, hR4, hg4, hb4⟩
    have hgg : g < g2 := Nat.lt_of_lt_of_le HB3.out.lt hg4
    have HW4 : Hid (KeepW w b n w1.heap.size u g g2 ls ⟨⟨on, ov, oc, op, oa, true, 0, true⟩, noSlt, false⟩ #[.string on, .int .i64 ov, .string oc, .int .i64 op, .int .i64 oa] w4) := Lib.hid ⟨HC3.out.below hb4, HR3.out.below hb4, HB3.out.below hb4, hR4, HO3.out.below hb4, grow_step b3 hb4⟩
    have HV4 := Lib.hid (Inv.first h1 h2 iov iop ioa)
    clear hR4 hg4 hb4 HC3 HR3 HB3 HO3 b3 cO lO
    go_wp2_with fail
    go_loopw [21] (fun i wr => ∃ (k : Nat) (s : Slts), i = .int .i64 k ∧ k ≤ ms.length ∧ Hid (Inv s) ∧ Hid (KeepW w b n w1.heap.size u g g2 ls s #[.string on, .int .i64 ov, .string oc, .int .i64 op, .int .i64 oa] wr)) (fun i _ => ms.length - (intOf i).toNat)
    case atStart => exact ⟨0, _, rfl, by omega, HV4, HW4⟩
    case round =>
      clear HV4 HW4
      obtain ⟨k, s, rfl, hk, HV, HK⟩ := hrel
      by_cases c1 : k < ms.length
      rotate_left
      · have g1 : ¬ (k : Int) < (ms.length : Int) := by omega
        go_wp2_with fail
        go_ret
        exact ⟨rfl, HK.out.2.2.2.2.2⟩
      have g1 : (k : Int) < (ms.length : Int) := by omega
      by_cases c2 : k < 20
      rotate_left
      · have g2_ : ¬ (k : Int) < 20 := by omega
        go_wp2_with fail
        go_ret
        exact ⟨rfl, HK.out.2.2.2.2.2⟩
      have g2_ : (k : Int) < 20 := by omega
      obtain ⟨bm, om, rfl, lbm, hcs⟩ := HM.out k c1
      obtain ⟨z1, z2, z3, z4, z5⟩ := HMS.out k c1
      obtain ⟨⟨zn, zv, zc, zp, za⟩, hz⟩ : ∃ z, ms.getD k noSgn = z := ⟨_, rfl⟩
      rw [hz] at hcs z1 z2 z3 z4 z5
      simp only [sgnCs] at hcs z1 z2 z3 z4 z5
      have e0 := hcs 0 (by decide)
      have e1 := hcs 1 (by decide)
      have e2 := hcs 2 (by decide)
      have e3 := hcs 3 (by decide)
      have e4 := hcs 4 (by decide)
      simp [-CellFam.cellOfFamily] at e0 e1 e2 e3 e4
      have HE : Hid (∀ w', Below w.heap.size w w' → w'.cell? ⟨bm, om + k * 5, none⟩ = some (.string zn) ∧ w'.cell? ⟨bm, om + k * 5 + 1, none⟩ = some (.int .i64 zv) ∧ w'.cell? ⟨bm, om + k * 5 + 2, none⟩ = some (.string zc) ∧ w'.cell? ⟨bm, om + k * 5 + 3, none⟩ = some (.int .i64 zp) ∧ w'.cell? ⟨bm, om + k * 5 + 4, none⟩ = some (.int .i64 za)) :=
        Lib.hid (fun w' hb => ⟨(hb.cell (p := ⟨bm, om + k * 5, none⟩) lbm).trans e0, (hb.cell (p := ⟨bm, om + k * 5 + 1, none⟩) lbm).trans e1, (hb.cell (p := ⟨bm, om + k * 5 + 2, none⟩) lbm).trans e2, (hb.cell (p := ⟨bm, om + k * 5 + 3, none⟩) lbm).trans e3, (hb.cell (p := ⟨bm, om + k * 5 + 4, none⟩) lbm).trans e4⟩)
      obtain ⟨U, hU⟩ : ∃ U, updE root cs ls (on, ov, oc, op, oa) (zn, zv, zc, zp, za) = U := ⟨_, rfl⟩
      obtain ⟨E, hE⟩ : ∃ E, doE root cs ls s (zn, zv, zc, zp, za) = E := ⟨_, rfl⟩
      obtain ⟨s', hs'⟩ : ∃ s', doS root cs ls s (zn, zv, zc, zp, za) = s' := ⟨_, rfl⟩
      have HUI : Hid (I64 U) := Lib.hid (by rw [← hU]; exact updE_bd _ _ _ _ _)
      have HEI : Hid (I64 E) := Lib.hid (by rw [← hE]; exact doE_bd _ _ _ _ _)
      have HV1 : Hid (Inv s') := Lib.hid (by rw [← hs']; exact HV.out.doS root cs ls (z := (zn, zv, zc, zp, za)) z1 z2 z3 z4 z5)
      have HM1 := Lib.hid (fun w hA hC ht => updMay_any root A c cs ls on ov oc op oa zn zv zc zp za b n w hA (by omega) hC h1 h2 z1 z2 ht)
      have HM2 := Lib.hid (fun w hA hR => rUpdMay_any root A c cs ls on ov oc op oa zn zv zc zp za w1.heap.size w hA (by omega) hR h12 h1 h2 z1 z2)
      have HD1 := Lib.hid (fun w hA hC hB ht => updDo_any root A c cs ls zn zv zc zp za g s b n w hA (by omega) hC hB HV.out z1 z2 ht)
      have HD2 := Lib.hid (fun w hA hR hB => rUpdDo_any root A c cs ls zn zv zc zp za g2 w1.heap.size u s w hA (by omega) hR h12 hB HV.out z1 z2)
      rw [hU] at HM1 HM2
      rw [hE, hs'] at HD1 HD2
      clear hU hE hs' hz hcs e0 e1 e2 e3 e4
      go_upto_region 15 with fail
      refine region_quiet (fun w' => KeepW w b n w1.heap.size u g g2 ls s #[.string on, .int .i64 ov, .string oc, .int .i64 op, .int .i64 oa] w') (by kernel_rfl) (by kernel_rfl) (KeepW.below HK.out (grow_drew (grow_refl _))) ?_
      repeat (go_big_quiet_step (first
        | (intro hC; rfl)
        | (intro hC; go_at_call 11; exact quiet_class (HM1.out _ (HA.out.below hC.2.2.2.2.2) hC.1 (HT.out.below hC.2.2.2.2.2)) (fun w' hb => hC.below hb))
        | (intro hC; go_at_call 12; exact quiet_class (HM2.out _ (HA.out.below hC.2.2.2.2.2) hC.2.1.cnt) (fun w' hb => hC.below hb))
        | (intro hC; go_at_call 10; exact quiet_class (error_any U U _ (HG.out.below hC.2.2.2.2.2) HUI.out) (fun w' hb => hC.below hb))
        | (intro hC; obtain ⟨e0, e1, e2, e3, e4⟩ := HE.out _ hC.2.2.2.2.2; have eo := hC.2.2.2.2.1.cell; simp only [e0, e1, e2, e3, e4, eo]; rfl)
        | (intro hC; obtain ⟨e0, e1, e2, e3, e4⟩ := HE.out _ hC.2.2.2.2.2; have eo := hC.2.2.2.2.1.cell; simp [-CellFam.cellOfFamily, e0, e1, e2, e3, e4, eo]; try rfl)))
      refine wpQuiet_nil ?_
      intro w5 E1
      have uu : (U == U) = true := by simp
      have ee : (E == E) = true := by simp
      clear HK HM1 HM2
      go_upto_region 16 with fail
      have GK := KeepW.below E1 (grow_drew (grow_refl _))
      go_region_held3 (fun w' => w'.cell? ⟨bm, om + k * 5, none⟩ = some (.string zn) ∧ w'.cell? ⟨bm, om + k * 5 + 1, none⟩ = some (.int .i64 zv) ∧ w'.cell? ⟨bm, om + k * 5 + 2, none⟩ = some (.string zc) ∧ w'.cell? ⟨bm, om + k * 5 + 3, none⟩ = some (.int .i64 zp) ∧ w'.cell? ⟨bm, om + k * 5 + 4, none⟩ = some (.int .i64 za))
        (first
          | exact HE.out _ GK.2.2.2.2.2
          | (go_keep; done))
        (first
          | (go_at_call 13; refine (HD1.out _ (HA.out.below GK.2.2.2.2.2) GK.1 GK.2.2.1 (HT.out.below GK.2.2.2.2.2)).mono ?_; rintro e w6 ⟨rfl, hB6, hk6⟩; have GK := GK.prog hB6 hk6 hbu hg3 hgg hwu)
          | (go_at_call 14; refine (HD2.out _ (HA.out.below GK.2.2.2.2.2) GK.2.1 GK.2.2.2.1).mono ?_; rintro e w7 ⟨rfl, hB7, hk7⟩; have GK := keepW_ref GK hB7 hk7 hbu hg3 hgg hwu)
          | (go_at_call 10; refine (error_any E E _ (HG.out.below GK.2.2.2.2.2) HEI.out).mono ?_; rintro e w8 ⟨rfl, hb8⟩; have GK := KeepW.below GK hb8))
      have HK1 := Lib.hid GK
      have HV2 := HV1
      clear GK E1 HD1 HD2 HE HEI HUI HV z1 z2 z3 z4 z5 HV1
      by_cases c5 : k < ds.length
      rotate_left
      · have g5 : ¬ (k : Int) < (ds.length : Int) := by omega
        obtain ⟨_, _, _, x4, x5, x6, x7, x8⟩ := HV2.out.x
        obtain ⟨_, _, _, y4, y5, y6, y7, y8⟩ := HV2.out.y
        have tx : I64 s'.x.t := ⟨by have := HV2.out.x.2.1; omega, by have := HV2.out.x.2.2.1; omega⟩
        have ty : I64 s'.y.t := ⟨by have := HV2.out.y.2.1; omega, by have := HV2.out.y.2.2.1; omega⟩
        obtain ⟨⟨n0, v0, c0, p0, a0, f0, t0, g0⟩, ⟨n1, v1, c1, p1, a1, f1, t1, g1_⟩, r⟩ := s'
        simp only at x4 x5 x6 x7 x8 y4 y5 y6 y7 y8 tx ty
        have q1 := fun w => neSl n0 v0 c0 p0 a0 f0 t0 g0 x4 x5 x6 x7 x8 tx w
        have q3 := fun w => neSl n1 v1 c1 p1 a1 f1 t1 g1_ y4 y5 y6 y7 y8 ty w
        have q2 := fun (x0 x1 x2 x3 x4 x5 x6 x7 y0 y1 y2 y3 y4 y5 y6 y7 : Value) o q w => guardSl x0 x1 x2 x3 x4 x5 x6 x7 y0 y1 y2 y3 y4 y5 y6 y7 .neq o q w
        clear x4 x5 x6 x7 x8 y4 y5 y6 y7 y8 tx ty
        go_wp2_with fail
        refine (at0U g _ _ _ _ HK1.out.2.2.1).mono ?_
        rintro e w20 ⟨rfl, hb20⟩
        have HK20 := Lib.hid (KeepW.below (KeepW.below HK1.out hb20) (grow_alloc (grow_refl _) (.cells #[.string n0, .int .i64 v0, .string c0, .int .i64 p0, .int .i64 a0, .bool f0, .int .i64 t0, .bool g0] 59)))
        have HX20 := Lib.hid (Box.new w20 59 #[.string n0, .int .i64 v0, .string c0, .int .i64 p0, .int .i64 a0, .bool f0, .int .i64 t0, .bool g0])
        clear hb20
        simp only
        go_wp2_with fail
        refine (at1U g _ _ _ _ HK20.out.2.2.1).mono ?_
        rintro e w21 ⟨rfl, hb21⟩
        have hk21 := KeepW.below (KeepW.below HK20.out hb21) (grow_alloc (grow_refl _) (.cells #[.string n1, .int .i64 v1, .string c1, .int .i64 p1, .int .i64 a1, .bool f1, .int .i64 t1, .bool g1_] 59))
        have HK21 := Lib.hid hk21
        have X21 := (HX20.out.below hb21).alloc_ (.cells #[.string n1, .int .i64 v1, .string c1, .int .i64 p1, .int .i64 a1, .bool f1, .int .i64 t1, .bool g1_] 59)
        have cX := X21.cell
        have lX := X21.lt
        have cR := hk21.2.2.2.1.cell
        have lR := hk21.2.2.2.1.lt
        simp only [Slts.cs] at cR
        clear hb21 X21 HK20 HX20 hk21
        simp only
        go_wp2_with fail
        go_quiet (fail)
        go_wp2_with fail
        go_roundw
        case rel => exact ⟨k + 1, ⟨⟨n0, v0, c0, p0, a0, f0, t0, g0⟩, ⟨n1, v1, c1, p1, a1, f1, t1, g1_⟩, r⟩, by go_num, by omega, HV2, Lib.hid (KeepW.below HK21.out (grow_drewN (grow_refl _) _))⟩
        case measure => simp [intOf]; omega
      have g5 : (k : Int) < (ds.length : Int) := by omega
      obtain ⟨bd, od, rfl, lbd, hcd⟩ := HD.out k c5
      obtain ⟨d, hd⟩ : ∃ z, ds.getD k 0 = z := ⟨_, rfl⟩
      rw [hd] at hcd
      have HCD := Lib.hid hcd
      have dd := (HK1.out.2.2.2.2.2.cell (p := ⟨bd, od + k, none⟩) lbd).trans hcd
      have lbd2 := Nat.lt_of_lt_of_le lbd HK1.out.2.2.2.2.2.size
      clear hd hcd
      by_cases d0 : 0 < d
      rotate_left
      · have d1 : ¬ 1 < d := by omega
        obtain ⟨_, _, _, x4, x5, x6, x7, x8⟩ := HV2.out.x
        obtain ⟨_, _, _, y4, y5, y6, y7, y8⟩ := HV2.out.y
        have tx : I64 s'.x.t := ⟨by have := HV2.out.x.2.1; omega, by have := HV2.out.x.2.2.1; omega⟩
        have ty : I64 s'.y.t := ⟨by have := HV2.out.y.2.1; omega, by have := HV2.out.y.2.2.1; omega⟩
        obtain ⟨⟨n0, v0, c0, p0, a0, f0, t0, g0⟩, ⟨n1, v1, c1, p1, a1, f1, t1, g1_⟩, r⟩ := s'
        simp only at x4 x5 x6 x7 x8 y4 y5 y6 y7 y8 tx ty
        have q1 := fun w => neSl n0 v0 c0 p0 a0 f0 t0 g0 x4 x5 x6 x7 x8 tx w
        have q3 := fun w => neSl n1 v1 c1 p1 a1 f1 t1 g1_ y4 y5 y6 y7 y8 ty w
        have q2 := fun (x0 x1 x2 x3 x4 x5 x6 x7 y0 y1 y2 y3 y4 y5 y6 y7 : Value) o q w => guardSl x0 x1 x2 x3 x4 x5 x6 x7 y0 y1 y2 y3 y4 y5 y6 y7 .neq o q w
        clear x4 x5 x6 x7 x8 y4 y5 y6 y7 y8 tx ty
        go_wp2_with fail
        refine (at0U g _ _ _ _ HK1.out.2.2.1).mono ?_
        rintro e w20 ⟨rfl, hb20⟩
        have HK20 := Lib.hid (KeepW.below (KeepW.below HK1.out hb20) (grow_alloc (grow_refl _) (.cells #[.string n0, .int .i64 v0, .string c0, .int .i64 p0, .int .i64 a0, .bool f0, .int .i64 t0, .bool g0] 59)))
        have HX20 := Lib.hid (Box.new w20 59 #[.string n0, .int .i64 v0, .string c0, .int .i64 p0, .int .i64 a0, .bool f0, .int .i64 t0, .bool g0])
        clear hb20
        simp only
        go_wp2_with fail
        refine (at1U g _ _ _ _ HK20.out.2.2.1).mono ?_
        rintro e w21 ⟨rfl, hb21⟩
        have hk21 := KeepW.below (KeepW.below HK20.out hb21) (grow_alloc (grow_refl _) (.cells #[.string n1, .int .i64 v1, .string c1, .int .i64 p1, .int .i64 a1, .bool f1, .int .i64 t1, .bool g1_] 59))
        have HK21 := Lib.hid hk21
        have X21 := (HX20.out.below hb21).alloc_ (.cells #[.string n1, .int .i64 v1, .string c1, .int .i64 p1, .int .i64 a1, .bool f1, .int .i64 t1, .bool g1_] 59)
        have cX := X21.cell
        have lX := X21.lt
        have cR := hk21.2.2.2.1.cell
        have lR := hk21.2.2.2.1.lt
        simp only [Slts.cs] at cR
        clear hb21 X21 HK20 HX20 hk21
        simp only
        go_wp2_with fail
        go_quiet (fail)
        go_wp2_with fail
        go_roundw
        case rel => exact ⟨k + 1, ⟨⟨n0, v0, c0, p0, a0, f0, t0, g0⟩, ⟨n1, v1, c1, p1, a1, f1, t1, g1_⟩, r⟩, by go_num, by omega, HV2, Lib.hid (KeepW.below HK21.out (grow_drewN (grow_refl _) _))⟩
        case measure => simp [intOf]; omega
      by_cases d1 : 1 < d
      rotate_left
      · skip
        obtain ⟨b1_, b2_, b3_, b4_, b5_, b6_, b7_, b8_⟩ := HV2.out.at_ s'.pick
        obtain ⟨⟨pn, pv, pc, pp, pa, pf, pt, pg⟩, hz⟩ : ∃ z, s'.at_ s'.pick = z := ⟨_, rfl⟩
        obtain ⟨s2, hs2⟩ : ∃ s2, startS s' = s2 := ⟨_, rfl⟩
        have HV3 : Hid (Inv s2) := Lib.hid (by rw [← hs2]; exact HV2.out.startS)
        have HP1 := Lib.hid (fun w hB => startC g s' w hB HV2.out)
        have HP2 := Lib.hid (fun w hB => rstartC g2 s' w hB HV2.out)
        rw [hz, hs2] at HP1 HP2
        rw [hz] at b1_ b2_ b3_ b4_ b5_ b6_ b7_ b8_
        simp only at b4_ b5_ b6_ b7_ b8_
        have q4 := fun w => neSg pn pv pc pp pa b4_ b5_ b6_ b7_ b8_ w
        have q5 := fun o q w => guardSg (.string pn) (.int .i64 pv) (.string pc) (.int .i64 pp) (.int .i64 pa) (.string pn) (.int .i64 pv) (.string pc) (.int .i64 pp) (.int .i64 pa) .neq o q w
        clear hz hs2 b1_ b2_ b3_ b4_ b5_ b6_ b7_ b8_
        go_wp2_with fail
        refine (HP1.out _ HK1.out.2.2.1).mono ?_
        rintro e w9 ⟨rfl, hB9, hk9⟩
        have G1 := KeepW.prog HK1.out hB9 hk9 hbu hg3 hgg hwu
        go_wp2_with fail
        refine (HP2.out _ G1.2.2.2.1).mono ?_
        rintro e w10 ⟨rfl, hB10, hk10⟩
        have HK2 := Lib.hid (keepW_ref G1 hB10 hk10 hbu hg3 hgg hwu)
        have dd2 := (HK2.out.2.2.2.2.2.cell (p := ⟨bd, od + k, none⟩) lbd).trans HCD.out
        have lbd3 := Nat.lt_of_lt_of_le lbd HK2.out.2.2.2.2.2.size
        simp only [Slt.im]
        clear G1 hB9 hk9 hB10 hk10 HP1 HP2 HK1 HV2 dd lbd2
        obtain ⟨_, _, _, x4, x5, x6, x7, x8⟩ := HV3.out.x
        obtain ⟨_, _, _, y4, y5, y6, y7, y8⟩ := HV3.out.y
        have tx : I64 s2.x.t := ⟨by have := HV3.out.x.2.1; omega, by have := HV3.out.x.2.2.1; omega⟩
        have ty : I64 s2.y.t := ⟨by have := HV3.out.y.2.1; omega, by have := HV3.out.y.2.2.1; omega⟩
        obtain ⟨⟨n0, v0, c0, p0, a0, f0, t0, g0⟩, ⟨n1, v1, c1, p1, a1, f1, t1, g1_⟩, r⟩ := s2
        simp only at x4 x5 x6 x7 x8 y4 y5 y6 y7 y8 tx ty
        have q1 := fun w => neSl n0 v0 c0 p0 a0 f0 t0 g0 x4 x5 x6 x7 x8 tx w
        have q3 := fun w => neSl n1 v1 c1 p1 a1 f1 t1 g1_ y4 y5 y6 y7 y8 ty w
        have q2 := fun (x0 x1 x2 x3 x4 x5 x6 x7 y0 y1 y2 y3 y4 y5 y6 y7 : Value) o q w => guardSl x0 x1 x2 x3 x4 x5 x6 x7 y0 y1 y2 y3 y4 y5 y6 y7 .neq o q w
        clear x4 x5 x6 x7 x8 y4 y5 y6 y7 y8 tx ty
        go_wp2_with fail
        refine (at0U g _ _ _ _ HK2.out.2.2.1).mono ?_
        rintro e w20 ⟨rfl, hb20⟩
        have HK20 := Lib.hid (KeepW.below (KeepW.below HK2.out hb20) (grow_alloc (grow_refl _) (.cells #[.string n0, .int .i64 v0, .string c0, .int .i64 p0, .int .i64 a0, .bool f0, .int .i64 t0, .bool g0] 59)))
        have HX20 := Lib.hid (Box.new w20 59 #[.string n0, .int .i64 v0, .string c0, .int .i64 p0, .int .i64 a0, .bool f0, .int .i64 t0, .bool g0])
        clear hb20
        simp only
        go_wp2_with fail
        refine (at1U g _ _ _ _ HK20.out.2.2.1).mono ?_
        rintro e w21 ⟨rfl, hb21⟩
        have hk21 := KeepW.below (KeepW.below HK20.out hb21) (grow_alloc (grow_refl _) (.cells #[.string n1, .int .i64 v1, .string c1, .int .i64 p1, .int .i64 a1, .bool f1, .int .i64 t1, .bool g1_] 59))
        have HK21 := Lib.hid hk21
        have X21 := (HX20.out.below hb21).alloc_ (.cells #[.string n1, .int .i64 v1, .string c1, .int .i64 p1, .int .i64 a1, .bool f1, .int .i64 t1, .bool g1_] 59)
        have cX := X21.cell
        have lX := X21.lt
        have cR := hk21.2.2.2.1.cell
        have lR := hk21.2.2.2.1.lt
        simp only [Slts.cs] at cR
        clear hb21 X21 HK20 HX20 hk21
        simp only
        go_wp2_with fail
        go_quiet (fail)
        go_wp2_with fail
        go_roundw
        case rel => exact ⟨k + 1, ⟨⟨n0, v0, c0, p0, a0, f0, t0, g0⟩, ⟨n1, v1, c1, p1, a1, f1, t1, g1_⟩, r⟩, by go_num, by omega, HV3, Lib.hid (KeepW.below HK21.out (grow_drewN (grow_refl _) _))⟩
        case measure => simp [intOf]; omega
      obtain ⟨b1_, b2_, b3_, b4_, b5_, b6_, b7_, b8_⟩ := HV2.out.at_ s'.pick
      obtain ⟨⟨pn, pv, pc, pp, pa, pf, pt, pg⟩, hz⟩ : ∃ z, s'.at_ s'.pick = z := ⟨_, rfl⟩
      obtain ⟨s2, hs2⟩ : ∃ s2, startS s' = s2 := ⟨_, rfl⟩
      have HV3 : Hid (Inv s2) := Lib.hid (by rw [← hs2]; exact HV2.out.startS)
      have HP1 := Lib.hid (fun w hB => startC g s' w hB HV2.out)
      have HP2 := Lib.hid (fun w hB => rstartC g2 s' w hB HV2.out)
      rw [hz, hs2] at HP1 HP2
      rw [hz] at b1_ b2_ b3_ b4_ b5_ b6_ b7_ b8_
      simp only at b4_ b5_ b6_ b7_ b8_
      have q4 := fun w => neSg pn pv pc pp pa b4_ b5_ b6_ b7_ b8_ w
      have q5 := fun o q w => guardSg (.string pn) (.int .i64 pv) (.string pc) (.int .i64 pp) (.int .i64 pa) (.string pn) (.int .i64 pv) (.string pc) (.int .i64 pp) (.int .i64 pa) .neq o q w
      clear hz hs2 b1_ b2_ b3_ b4_ b5_ b6_ b7_ b8_
      go_wp2_with fail
      refine (HP1.out _ HK1.out.2.2.1).mono ?_
      rintro e w9 ⟨rfl, hB9, hk9⟩
      have G1 := KeepW.prog HK1.out hB9 hk9 hbu hg3 hgg hwu
      go_wp2_with fail
      refine (HP2.out _ G1.2.2.2.1).mono ?_
      rintro e w10 ⟨rfl, hB10, hk10⟩
      have HK2 := Lib.hid (keepW_ref G1 hB10 hk10 hbu hg3 hgg hwu)
      have dd2 := (HK2.out.2.2.2.2.2.cell (p := ⟨bd, od + k, none⟩) lbd).trans HCD.out
      have lbd3 := Nat.lt_of_lt_of_le lbd HK2.out.2.2.2.2.2.size
      simp only [Slt.im]
      clear G1 hB9 hk9 hB10 hk10 HP1 HP2 HK1 HV2 dd lbd2
      obtain ⟨G, hG⟩ : ∃ G, goodE s2 = G := ⟨_, rfl⟩
      obtain ⟨s3, hs3⟩ : ∃ s3, goodS s2 = s3 := ⟨_, rfl⟩
      have HV4 : Hid (Inv s3) := Lib.hid (by rw [← hs3]; exact HV3.out.goodS)
      have HGI : Hid (I64 G) := Lib.hid (by rw [← hG]; exact goodE_bd s2)
      have HP3 := Lib.hid (fun w hB => goodC g s2 w hB)
      have HP4 := Lib.hid (fun w hB => rgoodC g2 s2 w hB)
      rw [hG, hs3] at HP3 HP4
      clear hG hs3
      go_wp2_with fail
      refine (HP3.out _ HK2.out.2.2.1).mono ?_
      rintro e w11 ⟨rfl, hB11, hk11⟩
      have G2 := KeepW.prog HK2.out hB11 hk11 hbu hg3 hgg hwu
      go_wp2_with fail
      refine (HP4.out _ G2.2.2.2.1).mono ?_
      rintro e w12 ⟨rfl, hB12, hk12⟩
      have G3 := keepW_ref G2 hB12 hk12 hbu hg3 hgg hwu
      go_wp2_with fail
      refine (error_any G G _ (HG.out.below G3.2.2.2.2.2) HGI.out).mono ?_
      rintro e w13 ⟨rfl, hb13⟩
      rw [show (G == G) = true by simp]
      have HK3 := Lib.hid (KeepW.below G3 hb13)
      clear G2 G3 hB11 hk11 hB12 hk12 hb13 HP3 HP4 HK2 HV3 HGI dd2 lbd3
      obtain ⟨_, _, _, x4, x5, x6, x7, x8⟩ := HV4.out.x
      obtain ⟨_, _, _, y4, y5, y6, y7, y8⟩ := HV4.out.y
      have tx : I64 s3.x.t := ⟨by have := HV4.out.x.2.1; omega, by have := HV4.out.x.2.2.1; omega⟩
      have ty : I64 s3.y.t := ⟨by have := HV4.out.y.2.1; omega, by have := HV4.out.y.2.2.1; omega⟩
      obtain ⟨⟨n0, v0, c0, p0, a0, f0, t0, g0⟩, ⟨n1, v1, c1, p1, a1, f1, t1, g1_⟩, r⟩ := s3
      simp only at x4 x5 x6 x7 x8 y4 y5 y6 y7 y8 tx ty
      have q1 := fun w => neSl n0 v0 c0 p0 a0 f0 t0 g0 x4 x5 x6 x7 x8 tx w
      have q3 := fun w => neSl n1 v1 c1 p1 a1 f1 t1 g1_ y4 y5 y6 y7 y8 ty w
      have q2 := fun (x0 x1 x2 x3 x4 x5 x6 x7 y0 y1 y2 y3 y4 y5 y6 y7 : Value) o q w => guardSl x0 x1 x2 x3 x4 x5 x6 x7 y0 y1 y2 y3 y4 y5 y6 y7 .neq o q w
      clear x4 x5 x6 x7 x8 y4 y5 y6 y7 y8 tx ty
      go_wp2_with fail
      refine (at0U g _ _ _ _ HK3.out.2.2.1).mono ?_
      rintro e w20 ⟨rfl, hb20⟩
      have HK20 := Lib.hid (KeepW.below (KeepW.below HK3.out hb20) (grow_alloc (grow_refl _) (.cells #[.string n0, .int .i64 v0, .string c0, .int .i64 p0, .int .i64 a0, .bool f0, .int .i64 t0, .bool g0] 59)))
      have HX20 := Lib.hid (Box.new w20 59 #[.string n0, .int .i64 v0, .string c0, .int .i64 p0, .int .i64 a0, .bool f0, .int .i64 t0, .bool g0])
      clear hb20
      simp only
      go_wp2_with fail
      refine (at1U g _ _ _ _ HK20.out.2.2.1).mono ?_
      rintro e w21 ⟨rfl, hb21⟩
      have hk21 := KeepW.below (KeepW.below HK20.out hb21) (grow_alloc (grow_refl _) (.cells #[.string n1, .int .i64 v1, .string c1, .int .i64 p1, .int .i64 a1, .bool f1, .int .i64 t1, .bool g1_] 59))
      have HK21 := Lib.hid hk21
      have X21 := (HX20.out.below hb21).alloc_ (.cells #[.string n1, .int .i64 v1, .string c1, .int .i64 p1, .int .i64 a1, .bool f1, .int .i64 t1, .bool g1_] 59)
      have cX := X21.cell
      have lX := X21.lt
      have cR := hk21.2.2.2.1.cell
      have lR := hk21.2.2.2.1.lt
      simp only [Slts.cs] at cR
      clear hb21 X21 HK20 HX20 hk21
      simp only
      go_wp2_with fail
      go_quiet (fail)
      go_wp2_with fail
      go_roundw
      case rel => exact ⟨k + 1, ⟨⟨n0, v0, c0, p0, a0, f0, t0, g0⟩, ⟨n1, v1, c1, p1, a1, f1, t1, g1_⟩, r⟩, by go_num, by omega, HV4, Lib.hid (KeepW.below HK21.out (grow_drewN (grow_refl _) _))⟩
      case measure => simp [intOf]; omega

set_option maxRecDepth 100000 in
theorem updatePlays_walks (H : Type) (enc : TypeId × Value → H) : WalksD enc Tryz.prog TabTD 3 Tryz.f3 := by
  intro W base args ds p hval hA hlt hsz hsh hdoor
  have hsz0 := hsz
  rw [Tryz.params3] at hA hval
  obtain ⟨v0, vs0, d0, ds0, p0, q0, hargs, rfl, rfl, h0, r0⟩ := trodAll_cons hA
  obtain ⟨v1, vs1, d1, ds1, p1, q1, rfl, rfl, rfl, h1, r1⟩ := trodAll_cons r0
  obtain ⟨v2, vs2, d2, ds2, p2, q2, rfl, rfl, rfl, h2, r2⟩ := trodAll_cons r1
  obtain ⟨v3, vs3, d3, ds3, p3, q3, rfl, rfl, rfl, h3, r3⟩ := trodAll_cons r2
  obtain ⟨v4, vs4, d4, ds4, p4, q4, rfl, rfl, rfl, h4, r4⟩ := trodAll_cons r3
  obtain ⟨v5, vs5, d5, ds5, p5, q5, rfl, rfl, rfl, h5, r5⟩ := trodAll_cons r4
  obtain ⟨v6, vs6, d6, ds6, p6, q6, rfl, rfl, rfl, h6, r6⟩ := trodAll_cons r5
  obtain ⟨rfl, rfl, rfl⟩ := trodAll_nil r6
  obtain rfl : args = #[v0, v1, v2, v3, v4, v5, v6] := by cases args; simp_all
  obtain ⟨a0, rfl, w0⟩ := op_int (hval 0 3 v0 rfl rfl) h0
  obtain ⟨A1, a1, c1, rfl, w1, z1, y1⟩ := op_certs (hval 1 22 v1 rfl rfl) h1 (fun x hx => hlt x (by simp [hx])) (w_each hsz 1 22 _ (by rw [Tryz.params3]; rfl) rfl)
  obtain ⟨A2, a2, c2, rfl, w2, z2, y2, g2⟩ := op_strings (hval 2 23 v2 rfl rfl) h2 (fun x hx => hlt x (by simp [hx])) (w_each hsz 2 23 _ (by rw [Tryz.params3]; rfl) rfl)
  obtain ⟨A3, a3, c3, rfl, w3, i3, z3⟩ := op_ints (hval 3 24 v3 rfl rfl) h3 (fun x hx => hlt x (by simp [hx])) (w_each hsz 3 24 _ (by rw [Tryz.params3]; rfl) rfl)
  obtain ⟨a4, b4, c4, p4_, q4_, rfl, w4, u4, z4, y4, t4⟩ := op_signed (hval 4 30 v4 rfl rfl) h4 (w_each hsz 4 30 _ (by rw [Tryz.params3]; rfl) rfl)
  obtain ⟨A5, a5, c5, rfl, w5, z5, y5, g5⟩ := op_signeds (hval 5 31 v5 rfl rfl) h5 (fun x hx => hlt x (by simp [hx])) (w_each hsz 5 31 _ (by rw [Tryz.params3]; rfl) rfl)
  obtain ⟨A6, a6, c6, rfl, w6, i6, z6⟩ := op_ints (hval 6 24 v6 rfl rfl) h6 (fun x hx => hlt x (by simp [hx])) (w_each hsz 6 24 _ (by rw [Tryz.params3]; rfl) rfl)
  exact updatePlays_walk W a0 A1 a1 c1 A2 a2 c2 A3 a3 c3 a4 b4 c4 p4_ q4_ A5 a5 c5 A6 a6 c6 w0 w1 z1 y1 w2 z2 y2 g2 w3 i3 z3 w4 u4 z4 y4 t4 w5 z5 y5 g5 w6 i6 z6 hdoor

set_option maxRecDepth 100000 in
theorem updatePlays_lifted (os : Os) (started : os.Started) (H : Type) (enc : TypeId × Value → H) :
    ReturnsInHanded {} Tryz.checked os 3 .any (fun w args => (Rows.updatePlaysSpec.pre enc Tryz.checked.prog Tryz.f3 [] false w args ∧ laidMetH Tryz.checked.prog LaidTD w) ∧ sizedMet enc Tryz.checked.prog Tryz.f3 (OpenSpec.ofChange Rows.updatePlaysSpec) false w args) (Rows.updatePlaysSpec.post enc Tryz.checked.prog Tryz.f3 false true false false) :=
  returns_of_walkD (C := Tryz.checked) (s := Rows.updatePlaysSpec) (L := LaidTD) (D := TabTD) own started (by kernel_rfl) Tryz.func3
    (ChangeSpec.witness_at (enc := enc) (C := Tryz.checked) (os := os) (X := fun w _ => laidMetH Tryz.prog LaidTD w) false (laidWorldTD os) #[.int .i64 0, .slice none 0 0, .slice none 0 0, .slice none 0 0, .agg #[.string ⟨#[]⟩, .int .i64 0, .string ⟨#[]⟩, .int .i64 0, .int .i64 0], .slice none 0 0, .slice none 0 0] 8 rfl (by kernel_rfl) (by kernel_rfl) (by kernel_rfl) (by kernel_rfl) (by kernel_rfl) (laidWorldTD_met os _))
    (fun W h => tabTD_of_laid h) laidOut (by kernel_rfl) rfl Tryz.underlying4 rfl (fun ds h => by match ds, h with | [_, _, _, _, _, _, _], _ => rfl) (updatePlays_walks H enc)

theorem updatePlays_bare : Rows.UpdatePlaysSaid :=
  OpenClaim.holds_of_wide 3 Tryz.f3 rfl rfl rfl rfl rfl rfl rfl ⟨rfl, rfl, rfl, rfl, rfl⟩ rfl rfl rfl rfl rfl (by kernel_rfl) Tryz.func3 (by kernel_rfl)
    (of_decide_eq_true (by kernel_rfl)) (by unfold Func.isWrapper; rw [if_neg (of_decide_eq_false (by kernel_rfl))]; exact ⟨rfl, rfl⟩)
    (fun os started H enc _ => updatePlays_lifted os started H enc)

theorem updatePlays_holds : Rows.UpdatePlaysCardSaid :=
  Claim7.holds_tied_plain_at .later [] [.data, .data, .data, .handle] true Rows.updatePlaysCard.stood.harness true
    updatePlays_bare (fun _ h => by cases h) (by kernel_rfl) (fun _ h => by cases h) updatePlays_row_tie rfl ⟨rfl, rfl⟩ (by kernel_rfl) rfl
    (fun f fn hf hfn => by
      obtain rfl : f = 3 := Option.some.inj ((show Tryz.prog.funcNamed "bootstair/stairlaw2.UpdatePlays" = some 3 by kernel_rfl).symm.trans hf) |>.symm
      obtain rfl : fn = Tryz.f3 := (Option.some.inj (Tryz.func3.symm.trans hfn)).symm
      exact ⟨by kernel_rfl, fun j t ht => by
        have hm : t ∈ Tryz.f3.params.toList := by simpa using Array.mem_of_getElem? ht
        have hall : (Tryz.f3.params.toList.all fun u => !Tryz.prog.wantsStandIn u) = true := by kernel_rfl
        exact (show Tryz.prog.wantsStandIn t = false by simpa using List.all_eq_true.1 hall t hm)⟩)
    (by kernel_rfl)

end Go.Proofs.YtflhbnaocognlaaGreatDoor
