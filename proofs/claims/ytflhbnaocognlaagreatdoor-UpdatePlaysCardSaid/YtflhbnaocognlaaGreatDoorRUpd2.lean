/- The reference's Do of an update. -/
import Derived.Test.YtflhbnaocognlaaGreatDoorRows
import Derived.Test.YtflhbnaocognlaaGreatDoorNum
import Derived.Test.YtflhbnaocognlaaGreatDoorBase
import Derived.Test.YtflhbnaocognlaaGreatDoorCert
import Derived.Test.YtflhbnaocognlaaGreatDoorImg
import Derived.Test.YtflhbnaocognlaaGreatDoorImg2
import Derived.Test.YtflhbnaocognlaaGreatDoorSign
import Derived.Test.YtflhbnaocognlaaGreatDoorRefI
import Derived.Test.YtflhbnaocognlaaGreatDoorRefK2
import Derived.Test.YtflhbnaocognlaaGreatDoorRefS2
import Derived.Test.YtflhbnaocognlaaGreatDoorFoot
import Derived.Test.YtflhbnaocognlaaGreatDoorSlot
import Derived.Test.YtflhbnaocognlaaGreatDoorRSlot
import Derived.Test.YtflhbnaocognlaaGreatDoorSInv
import Derived.Test.YtflhbnaocognlaaGreatDoorCntP
import Derived.Test.YtflhbnaocognlaaGreatDoorCntR
import Derived.Test.YtflhbnaocognlaaGreatDoorUpdP
import Derived.Test.YtflhbnaocognlaaGreatDoorQuietC
import Derived.Test.YtflhbnaocognlaaGreatDoorFootC
import Derived.Test.YtflhbnaocognlaaGreatDoorRUpd
import Derived.WalkKit
import Derived.WalkSpells
import Derived.Lib.Hide
import Derived.Deep.DeepCutAuto
import Derived.Deep.RegionHeld3
import Derived.Deep.QuietTactic
import Derived.BigQuiet
import Derived.RegionTactic
import Derived.BigRegion
namespace Go.Proofs.YtflhbnaocognlaaGreatDoor
open Go.RowKit
set_option maxRecDepth 100000
set_option linter.unusedSimpArgs false
set_option linter.unusedVariables false

/-- The reference's Counts at g, their list below u. -/
def RC2 (w : World) (g u : Nat) (ls : List Cnt) : Prop :=
  ∃ (A : Option Addr) (c : Nat), Box w g 37 #[.slice A ls.length c] ∧ OwnC w (g + 1) 74 2 A c ls.length (cntCells ls) ∧ (∀ a, A = some a → a.block < u) ∧ g < u
theorem RC2.cnt {w : World} {g u : Nat} {ls : List Cnt} (h : RC2 w g u ls) : RCnt w g ls := by
  obtain ⟨A, c, h1, h2, _⟩ := h
  exact ⟨A, c, h1, h2⟩
theorem RC2.of {w : World} {g : Nat} {ls : List Cnt} (h : RCnt w g ls) : RC2 w g w.heap.size ls := by
  obtain ⟨A, c, h1, h2⟩ := h
  exact ⟨A, c, h1, h2, fun a ha => (h2.at_ a ha).2, h1.lt⟩
theorem RC2.but {S : Nat → Prop} {w w' : World} {g u : Nat} {ls : List Cnt} (h : RC2 w g u ls) (k : But S w w') (hn : ∀ j, j < u → ¬ S j) : RC2 w' g u ls := by
  obtain ⟨A, c, h1, h2, h3, h4⟩ := h
  exact ⟨A, c, h1.but k (hn g h4), h2.but k (fun a ha => hn _ (h3 a ha)), h3, h4⟩
theorem RC2.below {w w' : World} {g u : Nat} {ls : List Cnt} (h : RC2 w g u ls) (hb : Below w.heap.size w w') : RC2 w' g u ls := h.but (below_but hb (fun _ => False)) (fun _ _ h => h)

theorem rsafe0 (g : Nat) (s : Slts) (w : World) (hB : Box w g 64 s.cs) (hr : s.safe = false) : Calls Tryz.prog 35 #[.pointer (some ⟨g, 0, none⟩)] w fun e w' => e = .returned (.int .i64 0) ∧ Below w.heap.size w w' := rsafe_at g s false w hB hr
theorem rsafe1 (g : Nat) (s : Slts) (w : World) (hB : Box w g 64 s.cs) (hr : s.safe = true) : Calls Tryz.prog 35 #[.pointer (some ⟨g, 0, none⟩)] w fun e w' => e = .returned (.int .i64 1) ∧ Below w.heap.size w w' := rsafe_at g s true w hB hr
/-- What the reference's Do keeps till it puts. -/
def KeepU (w0 : World) (g gc u : Nat) (s : Slts) (ls : List Cnt) (z : Array Value) (w : World) : Prop := Box w g 64 s.cs ∧ RC2 w gc u ls ∧ Box w w0.heap.size 30 z ∧ Below w0.heap.size w0 w
theorem KeepU.below {w0 : World} {g gc u : Nat} {s : Slts} {ls : List Cnt} {z : Array Value} {w w' : World} (h : KeepU w0 g gc u s ls z w) (hb : Below w.heap.size w w') : KeepU w0 g gc u s ls z w' := ⟨h.1.below hb, h.2.1.below hb, h.2.2.1.below hb, grow_step h.2.2.2 hb⟩

set_option maxHeartbeats 4000000 in
theorem rUpdDo_any (root : Int) (A : Option Addr) (c : Nat) (cs : List (Int × Int × Int)) (ls : List Cnt) (zn : ByteArray) (zv : Int) (zc : ByteArray) (zp za : Int) (g gc u : Nat) (s : Slts) (w : World) (hA : CertsAt w A cs) (hl : cs.length ≤ 100000000000000) (hR : RC2 w gc u ls) (h12 : ls.length ≤ 12) (hB : Box w g 64 s.cs)
    (hs : Inv s) (h3 : zn.size ≤ 140737488351232) (h4 : zc.size ≤ 140737488351232) :
    Calls Tryz.prog 14 #[.int .i64 root, .slice A cs.length c, .pointer (some ⟨gc, 0, none⟩), .pointer (some ⟨g, 0, none⟩), .agg #[.string zn, .int .i64 zv, .string zc, .int .i64 zp, .int .i64 za]] w fun e w' => e = .returned (.int .i64 (doE root cs ls s (zn, zv, zc, zp, za))) ∧ Box w' g 64 (doS root cs ls s (zn, zv, zc, zp, za)).cs ∧ But (fun k => k = g) w w' := by
  have ok := hs.at_ s.safe
  obtain ⟨U, hU⟩ : ∃ U, updE root cs ls (s.at_ s.safe).sg (zn, zv, zc, zp, za) = U := ⟨_, rfl⟩
  have HU := Lib.hid hU
  have HPU := Lib.hid (fun w hB => rputC g s zn zv zc zp za w hB h3 h4)
  have HD0 : Hid (U = 0 → doE root cs ls s (zn, zv, zc, zp, za) = putE s zn zv zc ∧ doS root cs ls s (zn, zv, zc, zp, za) = putS s zn zv zc zp za) := Lib.hid (fun h0 => by
    unfold doE doS
    have h := hU.trans h0
    exact ⟨if_pos h, if_pos h⟩)
  have HD1 : Hid (U ≠ 0 → doE root cs ls s (zn, zv, zc, zp, za) = U ∧ doS root cs ls s (zn, zv, zc, zp, za) = s) := Lib.hid (fun h0 => by
    unfold doE doS
    have h : updE root cs ls (s.at_ s.safe).sg (zn, zv, zc, zp, za) ≠ 0 := fun h => h0 (hU.symm.trans h)
    exact ⟨(if_neg h).trans hU, if_neg h⟩)
  have HA := Lib.hid hA
  have HK : Hid (KeepU w g gc u s ls #[.string zn, .int .i64 zv, .string zc, .int .i64 zp, .int .i64 za] (w.alloc (.cells #[.string zn, .int .i64 zv, .string zc, .int .i64 zp, .int .i64 za] 30))) := Lib.hid ⟨hB.alloc_ _, hR.below (grow_alloc (grow_refl _) _), Box.new w 30 #[.string zn, .int .i64 zv, .string zc, .int .i64 zp, .int .i64 za], grow_alloc (grow_refl _) _⟩
  obtain ⟨r, hr⟩ : ∃ r, s.safe = r := ⟨_, rfl⟩
  rw [hr] at hU ok
  have HRS := Lib.hid hr
  obtain ⟨s', hss⟩ : ∃ s', s' = s := ⟨_, rfl⟩
  have HSS := Lib.hid hss
  clear hA hB hR hs hr hss HU
  cases r
  · have HM := Lib.hid (fun w hA hR => rUpdMay_any root A c cs ls s.x.n s.x.v s.x.c s.x.p s.x.a zn zv zc zp za gc w hA hl hR h12 ok.2.2.2.1 ok.2.2.2.2.1 h3 h4)
    have hUU : updE root cs ls (s.x.n, s.x.v, s.x.c, s.x.p, s.x.a) (zn, zv, zc, zp, za) = U := hU
    rw [hUU] at HM
    clear hU hUU ok
    go_enter Tryz.func14, Tryz.ntmps14
    go_wp2_with fail
    refine region_quiet (fun w' => KeepU w g gc u s ls #[.string zn, .int .i64 zv, .string zc, .int .i64 zp, .int .i64 za] w') (by kernel_rfl) (by kernel_rfl) (KeepU.below HK.out (grow_drew (grow_refl _))) ?_
    repeat (go_big_quiet_step (first
      | (intro hC; rfl)
      | (intro hC; go_at_call 35; exact quiet_class (rsafe0 g s _ hC.1 HRS.out) (fun w' hb => hC.below hb))
      | (intro hC; go_at_call 12; exact quiet_class (HM.out _ (HA.out.below hC.2.2.2) hC.2.1.cnt) (fun w' hb => hC.below hb))
      | (intro hC; have e1 := hC.1.cell; have e2 := hC.2.2.1.cell; simp only [Slts.cs] at e1; simp only [e1, e2]; rfl)
      | (intro hC; have e1 := hC.1.cell; have e2 := hC.2.2.1.cell; simp only [Slts.cs] at e1; simp [e1, e2]; try rfl)))
    refine wpQuiet_nil ?_
    intro w1 E1
    have cZ := E1.2.2.1.cell
    have lZ := E1.2.2.1.lt
    have HE1 := Lib.hid E1
    clear E1 HM HK
    by_cases h0 : U = 0
    · have hd := HD0.out h0
      have HD := Lib.hid hd
      clear hd HD0 HD1
      subst h0
      go_wp2_with fail
      refine (HPU.out _ HE1.out.1).mono ?_
      rintro e w3 ⟨rfl, hB3, hk3⟩
      go_wp2_with fail
      go_ret
      refine ⟨by rw [HD.out.1]; rfl, by rw [HD.out.2]; exact hB3, ?_⟩
      exact (below_but HE1.out.2.2.2 (fun k => k = g)).trans hk3 (fun x _ h => h)
    · have hd := HD1.out h0
      have HD := Lib.hid hd
      have t : (U == 0) = false := by simp [h0]
      clear hd HD0 HD1 h0
      go_wp2_with fail
      go_ret
      exact ⟨by rw [HD.out.1]; rfl, by rw [HD.out.2]; exact HE1.out.1, below_but HE1.out.2.2.2 _⟩
  · have HM := Lib.hid (fun w hA hR => rUpdMay_any root A c cs ls s.y.n s.y.v s.y.c s.y.p s.y.a zn zv zc zp za gc w hA hl hR h12 ok.2.2.2.1 ok.2.2.2.2.1 h3 h4)
    have hUU : updE root cs ls (s.y.n, s.y.v, s.y.c, s.y.p, s.y.a) (zn, zv, zc, zp, za) = U := hU
    rw [hUU] at HM
    clear hU hUU ok
    go_enter Tryz.func14, Tryz.ntmps14
    go_wp2_with fail
    refine region_quiet (fun w' => KeepU w g gc u s ls #[.string zn, .int .i64 zv, .string zc, .int .i64 zp, .int .i64 za] w') (by kernel_rfl) (by kernel_rfl) (KeepU.below HK.out (grow_drew (grow_refl _))) ?_
    repeat (go_big_quiet_step (first
      | (intro hC; rfl)
      | (intro hC; go_at_call 35; exact quiet_class (rsafe1 g s _ hC.1 HRS.out) (fun w' hb => hC.below hb))
      | (intro hC; go_at_call 12; exact quiet_class (HM.out _ (HA.out.below hC.2.2.2) hC.2.1.cnt) (fun w' hb => hC.below hb))
      | (intro hC; have e1 := hC.1.cell; have e2 := hC.2.2.1.cell; simp only [Slts.cs] at e1; simp only [e1, e2]; rfl)
      | (intro hC; have e1 := hC.1.cell; have e2 := hC.2.2.1.cell; simp only [Slts.cs] at e1; simp [e1, e2]; try rfl)))
    refine wpQuiet_nil ?_
    intro w1 E1
    have cZ := E1.2.2.1.cell
    have lZ := E1.2.2.1.lt
    have HE1 := Lib.hid E1
    clear E1 HM HK
    by_cases h0 : U = 0
    · have hd := HD0.out h0
      have HD := Lib.hid hd
      clear hd HD0 HD1
      subst h0
      go_wp2_with fail
      refine (HPU.out _ HE1.out.1).mono ?_
      rintro e w3 ⟨rfl, hB3, hk3⟩
      go_wp2_with fail
      go_ret
      refine ⟨by rw [HD.out.1]; rfl, by rw [HD.out.2]; exact hB3, ?_⟩
      exact (below_but HE1.out.2.2.2 (fun k => k = g)).trans hk3 (fun x _ h => h)
    · have hd := HD1.out h0
      have HD := Lib.hid hd
      have t : (U == 0) = false := by simp [h0]
      clear hd HD0 HD1 h0
      go_wp2_with fail
      go_ret
      exact ⟨by rw [HD.out.1]; rfl, by rw [HD.out.2]; exact HE1.out.1, below_but HE1.out.2.2.2 _⟩

end Go.Proofs.YtflhbnaocognlaaGreatDoor
