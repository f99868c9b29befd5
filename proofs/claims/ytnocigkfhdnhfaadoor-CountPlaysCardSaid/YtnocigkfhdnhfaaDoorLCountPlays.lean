/- CountPlays: any that are raised, and asked: what is refused, whether it is another one, and all that are least, as the reference says. The package variable errors.errorType holds what the program's text lays. -/
import Derived.Test.YtnocigkfhdnhfaaDoorRows
import Derived.Test.YtnocigkfhdnhfaaDoorOpen
import Derived.Test.YtnocigkfhdnhfaaDoorOpStr
import Derived.Test.YtnocigkfhdnhfaaDoorImg
import Derived.Test.YtnocigkfhdnhfaaDoorRefI
import Derived.Test.YtnocigkfhdnhfaaDoorFoot
import Derived.Test.YtnocigkfhdnhfaaDoorFootC
import Derived.Test.YtnocigkfhdnhfaaDoorCount3
import Derived.Test.YtnocigkfhdnhfaaDoorCntR
import Derived.Test.YtnocigkfhdnhfaaDoorCntC
import Derived.Test.YtnocigkfhdnhfaaDoorQuietC
import Derived.Test.YtnocigkfhdnhfaaDoorTold
import Derived.Test.YtnocigkfhdnhfaaDoorBds
import Derived.Test.YtnocigkfhdnhfaaDoorLiftD
import Derived.WalkKit
import Derived.WalkSpells
import Derived.Lib.Hide
import Derived.Deep.DeepCutAuto
import Derived.Deep.CutBlock
import Derived.Deep.CutRange
import Derived.Deep.RegionHeld3
import Derived.Deep.QuietTactic
import Derived.BigQuiet
import Derived.RegionTactic
import Derived.BigRegion
namespace Go.Proofs.YtnocigkfhdnhfaaDoor
open Go.ChangeShapes Go.WideShapes Go.ChangeAt Go.RowKit
set_option linter.unusedVariables false
set_option maxRecDepth 100000

theorem hasL_nil : hasL [] = fun _ => false := by funext t; rfl
theorem ofL_nil : ofL [] = fun _ => 0 := by funext t; rfl
theorem new_c (w : World) :
    Calls Tryd.prog 17 #[] w fun e w' => ∃ b : Nat, e = .returned (.pointer (some ⟨b + 1, 0, none⟩)) ∧ w.heap.size ≤ b ∧ b + 1 < w'.heap.size ∧ CE w' b 0 [] ∧ Below w.heap.size w w' := by
  refine (countNewE_any w).mono ?_
  rintro e w' ⟨rfl, h, hb⟩
  refine ⟨_, rfl, Nat.le_refl _, ?_, ?_, hb⟩
  · obtain ⟨D, h1, _⟩ := h
    exact h1.lt
  · unfold CE
    rw [hasL_nil, ofL_nil]
    exact h
theorem below_from {g : Nat} {w w' : World} (h : Below g w w') : But (fun k => g ≤ k) w w' := ⟨h.os, h.tape, h.output, h.size, fun k _ hn => h.block k (by omega)⟩
/-- What a round keeps. -/
def KeepC (w0 : World) (b n g : Nat) (ls : List Cnt) (w : World) : Prop := CE w b n ls ∧ RCnt w g ls ∧ Below w0.heap.size w0 w
theorem KeepC.below {w0 : World} {b n g : Nat} {ls : List Cnt} {w w' : World} (h : KeepC w0 b n g ls w) (hb : Below w.heap.size w w') : KeepC w0 b n g ls w' := ⟨h.1.below hb, h.2.1.below hb, grow_step h.2.2 hb⟩

set_option maxHeartbeats 8000000 in
theorem countPlays_walk (w : World) (N : Option Addr) (ns : List ByteArray) (cn : Nat) (D : Option Addr) (ds : List Int) (cd : Nat) (A : Option Addr) (l : List Int) (cl : Nat)
    (hN : StrsAt w N ns) (hnl : ns.length * 16 ≤ 140737488351232) (hnc : ns.length ≤ cn) (hns : ∀ i, i < ns.length → (ns.getD i ⟨#[]⟩).size ≤ 140737488351232)
    (hD : IntsAt w D ds) (hdi : ∀ x ∈ ds, I64 x) (hdl : ds.length * 8 ≤ 140737488351232) (hA : IntsAt w A l) (hi : ∀ x ∈ l, I64 x) (hl : l.length * 8 ≤ 140737488351232) (hg : Door w) :
    Calls Tryd.prog 6 #[.slice N ns.length cn, .slice D ds.length cd, .slice A l.length cl] w fun e w' => e = .returned (.bool true) ∧ Below w.heap.size w w' := by
  have HG := Lib.hid hg
  have HN := Lib.hid hN
  have HD := Lib.hid hD
  have HA := Lib.hid hA
  have HNS := Lib.hid hns
  clear hg hN hD hA hns hdi hi
  go_enter Tryd.func6, Tryd.ntmps6
  go_wp2_with fail
  refine (new_c _).mono ?_
  rintro e w1 ⟨b, rfl, hbw, hb1, hC1, hbw1⟩
  have HC1 := Lib.hid (hC1.below (grow_alloc (grow_refl _) (.cells #[.slice none 0 0] 43)))
  have HR1 : Hid (RCnt (w1.alloc (.cells #[.slice none 0 0] 43)) w1.heap.size []) := Lib.hid ⟨none, 0, Box.new _ _ _, OwnC.start _ _ _ _⟩
  have hgw : w.heap.size ≤ w1.heap.size := hbw1.size
  clear hC1
  go_wp2_with fail
  go_loopw [9] (fun i wr => ∃ (k n : Nat) (ls : List Cnt), i = .int .i64 k ∧ k ≤ ns.length ∧ n ≤ k ∧ ls.length ≤ 12 ∧ Hid (KeepC w b n w1.heap.size ls wr)) (fun i _ => ns.length - (intOf i).toNat)
  case atStart => exact ⟨0, 0, [], rfl, by omega, by omega, by simp, Lib.hid ⟨HC1.out, HR1.out, grow_alloc hbw1 _⟩⟩
  case round =>
    clear HC1 HR1
    obtain ⟨k, n, ls, rfl, hk, hn, h12, HK⟩ := hrel
    by_cases c1 : k < ns.length
    rotate_left
    · have g1 : ¬ (k : Int) < (ns.length : Int) := by omega
      go_wp2_with fail
      go_ret
      exact ⟨rfl, HK.out.2.2⟩
    have g1 : (k : Int) < (ns.length : Int) := by omega
    by_cases c2 : k < ds.length
    rotate_left
    · have g2 : ¬ (k : Int) < (ds.length : Int) := by omega
      go_wp2_with fail
      go_ret
      exact ⟨rfl, HK.out.2.2⟩
    have g2 : (k : Int) < (ds.length : Int) := by omega
    by_cases c3 : k < l.length
    rotate_left
    · have g3 : ¬ (k : Int) < (l.length : Int) := by omega
      go_wp2_with fail
      go_ret
      exact ⟨rfl, HK.out.2.2⟩
    have g3 : (k : Int) < (l.length : Int) := by omega
    by_cases c4 : k < 80
    rotate_left
    · have g4 : ¬ (k : Int) < 80 := by omega
      go_wp2_with fail
      go_ret
      exact ⟨rfl, HK.out.2.2⟩
    have g4 : (k : Int) < 80 := by omega
    obtain ⟨bn, on, rfl, lbn, hcn⟩ := HN.out k c1
    obtain ⟨bd, od, rfl, lbd, hcd⟩ := HD.out k c2
    obtain ⟨bl, ol, rfl, lbl, hcl⟩ := HA.out k c3
    have hz := HNS.out k c1
    obtain ⟨nm, hnm⟩ : ∃ z, ns.getD k ⟨#[]⟩ = z := ⟨_, rfl⟩
    obtain ⟨d, hd⟩ : ∃ z, ds.getD k 0 = z := ⟨_, rfl⟩
    obtain ⟨x, hx⟩ : ∃ z, l.getD k 0 = z := ⟨_, rfl⟩
    rw [hnm] at hcn hz
    rw [hd] at hcd
    rw [hx] at hcl
    have HCN := Lib.hid hcn
    have HCL := Lib.hid hcl
    have dd := (HK.out.2.2.cell (p := ⟨bd, od + k, none⟩) lbd).trans hcd
    have lbd2 := Nat.lt_of_lt_of_le lbd HK.out.2.2.size
    clear hnm hd hx hcn hcd hcl lbd
    go_upto_if 50 with fail
    go_cut [10, 11, 12, 13, 14, 50] from 51 to 105 (fun told _ _ _ _ _ wx => ∃ (n' : Nat) (ls' : List Cnt), told = .bool true ∧ n' ≤ k + 1 ∧ ls'.length ≤ 12 ∧ Hid (KeepC w b n' w1.heap.size ls' wx))
    case first =>
      clear dd lbd2
      by_cases d0 : d = 0
      · subst d0
        obtain ⟨E, hE⟩ : ∃ E, mayL ls nm x = E := ⟨_, rfl⟩
        have HEI : Hid (I64 E) := Lib.hid (by rw [← hE]; exact mayL_bd _ _ _)
        have HM1 := Lib.hid (fun w h => cMay_any b n ls nm x w h hz)
        have HM2 := Lib.hid (fun w h => rMay_any w1.heap.size ls nm x w h (by omega) h12)
        rw [hE] at HM1 HM2
        clear hE
        go_upto_region 8 with fail
        refine region_quiet (fun w' => KeepC w b n w1.heap.size ls w') (by kernel_rfl) (by kernel_rfl) (KeepC.below HK.out (grow_drew (grow_refl _))) ?_
        repeat (go_big_quiet_step (first
          | (intro hC; rfl)
          | (intro hC; go_at_call 20; exact quiet_class (HM1.out _ hC.1) (fun w' hb => hC.below hb))
          | (intro hC; go_at_call 21; exact quiet_class (HM2.out _ hC.2.1) (fun w' hw => hw ▸ hC))
          | (intro hC; go_at_call 16; exact quiet_class (error_any E E _ (HG.out.below hC.2.2) HEI.out) (fun w' hb => hC.below hb))
          | (intro hC; have e1 := (hC.2.2.cell (p := ⟨bn, on + k, none⟩) lbn).trans HCN.out; have e2 := (hC.2.2.cell (p := ⟨bl, ol + k, none⟩) lbl).trans HCL.out; simp only [e1, e2]; rfl)
          | (intro hC; have e1 := (hC.2.2.cell (p := ⟨bn, on + k, none⟩) lbn).trans HCN.out; have e2 := (hC.2.2.cell (p := ⟨bl, ol + k, none⟩) lbl).trans HCL.out; simp [e1, e2]; try rfl)))
        refine wpQuiet_nil ?_
        intro w8 E1
        go_wp2_with fail
        go_meet
        exact ⟨n, ls, by simp, by omega, h12, Lib.hid E1⟩
      · have dz : (d == 0) = false := by simp [d0]
        obtain ⟨E, hE⟩ : ∃ E, raiseE ls nm x = E := ⟨_, rfl⟩
        obtain ⟨Bv, hBv⟩ : ∃ Bv, raiseB ls nm x = Bv := ⟨_, rfl⟩
        obtain ⟨ls', hls⟩ : ∃ ls', raiseL ls nm x = ls' := ⟨_, rfl⟩
        have HEI : Hid (I64 E) := Lib.hid (by rw [← hE]; exact raiseE_bd _ _ _)
        have h12' : ls'.length ≤ 12 := by rw [← hls]; exact raiseL_len _ _ h12
        have HM1 := Lib.hid (fun w h => cRaise_any b n ls nm x w h hz (by omega) h12)
        have HM2 := Lib.hid (fun w h => rRaise_any w1.heap.size ls nm x w h (by omega) h12)
        unfold RaisePost at HM2
        rw [hE, hBv, hls] at HM1 HM2
        have bb : (Bv == Bv) = true := by simp
        clear hE hBv hls d0
        go_upto_region 9 with fail
        have GC := HK.out.1.below (grow_drew (grow_refl _))
        have GR := HK.out.2.1.below (grow_drew (grow_refl _))
        have GW := grow_drew HK.out.2.2
        go_region_held3 (fun w' => w'.cell? ⟨bn, on + k, none⟩ = some (.string nm) ∧ w'.cell? ⟨bl, ol + k, none⟩ = some (.int .i64 x) ∧ Below w.heap.size w w')
          (first
            | exact ⟨(GW.cell (p := ⟨bn, on + k, none⟩) lbn).trans HCN.out, (GW.cell (p := ⟨bl, ol + k, none⟩) lbl).trans HCL.out, GW⟩
            | (go_keep; done))
          (first
            | (go_at_call 22; refine (HM2.out _ GR).mono ?_; rintro e w5 ⟨rfl, hR5, hb5⟩; have GC := GC.but (below_from hb5) (by omega) (by omega); have GR := hR5; have GW := GW.trans (hb5.mono hgw)))
        go_upto_region 10 with fail
        have GC2 := GC.below (grow_drew (grow_refl _))
        have GR2 := GR.below (grow_drew (grow_refl _))
        have GW2 := grow_drew GW
        clear GC GR GW
        go_region_held3 (fun w' => w'.cell? ⟨bn, on + k, none⟩ = some (.string nm) ∧ w'.cell? ⟨bl, ol + k, none⟩ = some (.int .i64 x) ∧ Below w.heap.size w w')
          (first
            | exact ⟨(GW2.cell (p := ⟨bn, on + k, none⟩) lbn).trans HCN.out, (GW2.cell (p := ⟨bl, ol + k, none⟩) lbl).trans HCL.out, GW2⟩
            | (go_keep; done))
          (first
            | (go_at_call 18; refine (HM1.out _ GC2).mono ?_; rintro e w6 ⟨rfl, ⟨n', hn', hC6⟩, hk6⟩; have GR2 := GR2.but hk6 (by intro j hj h; have : j = b := h; omega); have GC2 := hC6; have GW2 := GW2.trans (hk6.below GW2.size (by intro j h; have : j = b := h; omega))))
        go_wp2_with fail
        refine (error_any E E _ (HG.out.below GW2) HEI.out).mono ?_
        rintro e w7 ⟨rfl, hb7⟩
        rw [show (E == E) = true by simp]
        go_wp2_with fail
        go_meet
        exact ⟨n', ls', by first | rfl | simp, by omega, h12', Lib.hid (KeepC.below ⟨GC2, GR2, GW2⟩ hb7)⟩
    case rest =>
      obtain ⟨n', ls', rfl, hn', h12', HK'⟩ := hcut
      clear HK dd lbd2 HCN HCL hz
      go_wp2_with fail
      go_loopw [10, 15] (fun told q wr => ∃ j : Nat, told = .bool true ∧ q = .int .i64 j ∧ j ≤ k + 1 ∧ Hid (KeepC w b n' w1.heap.size ls' wr)) (fun _ q _ => k + 1 - (intOf q).toNat)
      case atStart => exact ⟨0, rfl, rfl, by omega, HK'⟩
      case round =>
        clear HK'
        obtain ⟨j, rfl, rfl, hj, HK⟩ := hrel
        by_cases cj : j ≤ k
        · have gj : (j : Int) ≤ (k : Int) := by omega
          have gj2 : (j : Int) < (ns.length : Int) := by omega
          obtain ⟨b', o', e', lb', hcj⟩ := HN.out j (by omega)
          injection e' with e'
          injection e' with qa qb
          subst qa
          subst qb
          have hz := HNS.out j (by omega)
          obtain ⟨nm, hnm⟩ : ∃ z, ns.getD j ⟨#[]⟩ = z := ⟨_, rfl⟩
          rw [hnm] at hcj hz
          have dj := (HK.out.2.2.cell (p := ⟨bn, on + j, none⟩) lbn).trans hcj
          have lbn2 := Nat.lt_of_lt_of_le lbn HK.out.2.2.size
          have HLs := Lib.hid (fun w h => cLeast_any b n' ls' nm w h hz)
          have HOf := Lib.hid (fun w h => rOf_any w1.heap.size ls' nm w h h12')
          obtain ⟨V, hV⟩ : ∃ V, ofL ls' nm.data.toList = V := ⟨_, rfl⟩
          rw [hV] at HLs HOf
          clear hnm hcj hV lb'
          cases ho : okName nm
          · rw [ho] at HLs
            simp only [Bool.false_eq_true, if_false] at HLs
            go_wp2_with (go_at_call 23; refine (rName_any nm _ (by omega)).mono ?_; rintro e w' ⟨rfl, rfl⟩; rw [ho])
            refine (HLs.out _ HK.out.1).mono ?_
            rintro e w5 ⟨rfl, hb5⟩
            have HK5 := Lib.hid (HK.out.below hb5)
            go_wp2_with fail
            refine (error_any 3 3 _ (HG.out.below HK5.out.2.2) (i64_small (by decide) (by decide))).mono ?_
            rintro e w6 ⟨rfl, hb6⟩
            rw [show ((3 : Int) == 3) = true from rfl]
            go_wp2_with fail
            go_roundw
            case rel => exact ⟨j + 1, by first | rfl | simp, by go_num, by omega, Lib.hid (HK5.out.below hb6)⟩
            case measure => simp [intOf]; omega
          · rw [ho] at HLs
            simp only [if_true] at HLs
            go_wp2_with (first
              | (go_at_call 23; refine (rName_any nm _ (by omega)).mono ?_; rintro e w' ⟨rfl, rfl⟩; rw [ho])
              | (go_at_call 24; refine (HOf.out _ HK.out.2.1).mono ?_; rintro e w' ⟨rfl, rfl⟩))
            refine (HLs.out _ HK.out.1).mono ?_
            rintro e w5 ⟨rfl, hb5⟩
            have HK5 := Lib.hid (HK.out.below hb5)
            have vv : (V == V) = true := by simp
            go_wp2_with fail
            refine (error_any 0 0 _ (HG.out.below HK5.out.2.2) (i64_small (by decide) (by decide))).mono ?_
            rintro e w6 ⟨rfl, hb6⟩
            rw [show ((0 : Int) == 0) = true from rfl]
            go_wp2_with fail
            go_roundw
            case rel => exact ⟨j + 1, by first | rfl | simp, by go_num, by omega, Lib.hid (HK5.out.below hb6)⟩
            case measure => simp [intOf]; omega
        · have gj : ¬ (j : Int) ≤ (k : Int) := by omega
          go_wp2_with fail
          go_roundw
          case rel => exact ⟨k + 1, n', ls', by go_num, by omega, by omega, h12', HK⟩
          case measure => simp [intOf]; omega

set_option maxRecDepth 100000 in
theorem countPlays_walks (H : Type) (enc : TypeId × Value → H) : WalksD enc Tryd.prog Door 6 Tryd.f6 := by
  intro W base args ds p hval hA hlt hsz hsh hdoor
  have hsz0 := hsz
  rw [Tryd.params6] at hA hval
  obtain ⟨v0, vs0, d0, ds0, p0, q0, hargs, rfl, rfl, h0, r0⟩ := trodAll_cons hA
  obtain ⟨v1, vs1, d1, ds1, p1, q1, rfl, rfl, rfl, h1, r1⟩ := trodAll_cons r0
  obtain ⟨v2, vs2, d2, ds2, p2, q2, rfl, rfl, rfl, h2, r2⟩ := trodAll_cons r1
  obtain ⟨rfl, rfl, rfl⟩ := trodAll_nil r2
  obtain rfl : args = #[v0, v1, v2] := by cases args; simp_all
  obtain ⟨A0, a0, c0, rfl, w0, z0, y0, g0⟩ := op_strings (hval 0 39 v0 rfl rfl) h0 (fun x hx => hlt x (by simp [hx])) (w_each hsz 0 39 _ (by rw [Tryd.params6]; rfl) rfl)
  obtain ⟨A1, a1, c1, rfl, w1, i1, z1⟩ := op_ints (hval 1 36 v1 rfl rfl) h1 (fun x hx => hlt x (by simp [hx])) (w_each hsz 1 36 _ (by rw [Tryd.params6]; rfl) rfl)
  obtain ⟨A2, a2, c2, rfl, w2, i2, z2⟩ := op_ints (hval 2 36 v2 rfl rfl) h2 (fun x hx => hlt x (by simp [hx])) (w_each hsz 2 36 _ (by rw [Tryd.params6]; rfl) rfl)
  exact countPlays_walk W A0 a0 c0 A1 a1 c1 A2 a2 c2 w0 z0 y0 g0 w1 i1 z1 w2 i2 z2 hdoor

set_option maxRecDepth 100000 in
theorem countPlays_lifted (os : Os) (started : os.Started) (H : Type) (enc : TypeId × Value → H) :
    ReturnsInHanded {} Tryd.checked os 6 .any (fun w args => (Rows.countPlaysSpec.pre enc Tryd.checked.prog Tryd.f6 [] false w args ∧ laidMetH Tryd.checked.prog LaidD w) ∧ sizedMet enc Tryd.checked.prog Tryd.f6 (OpenSpec.ofChange Rows.countPlaysSpec) false w args) (Rows.countPlaysSpec.post enc Tryd.checked.prog Tryd.f6 false true false false) :=
  returns_of_walkD (C := Tryd.checked) (s := Rows.countPlaysSpec) (L := LaidD) (D := Door) own started (by kernel_rfl) Tryd.func6
    (ChangeSpec.witness_at (enc := enc) (C := Tryd.checked) (os := os) (X := fun w _ => laidMetH Tryd.prog LaidD w) false (laidWorld os) #[.slice none 0 0, .slice none 0 0, .slice none 0 0] 8 rfl (by kernel_rfl) (by kernel_rfl) (by kernel_rfl) (by kernel_rfl) (by kernel_rfl) (laidWorld_met os _))
    (fun W h => door_of_laid h) laidOut (by kernel_rfl) rfl Tryd.underlying4 rfl (fun ds h => by match ds, h with | [_, _, _], _ => rfl) (countPlays_walks H enc)

theorem countPlays_bare : Rows.CountPlaysSaid :=
  OpenClaim.holds_of_wide 6 Tryd.f6 rfl rfl rfl rfl rfl rfl rfl ⟨rfl, rfl, rfl, rfl, rfl⟩ rfl rfl rfl rfl rfl (by kernel_rfl) Tryd.func6 (by kernel_rfl)
    (of_decide_eq_true (by kernel_rfl)) (by unfold Func.isWrapper; rw [if_neg (of_decide_eq_false (by kernel_rfl))]; exact ⟨rfl, rfl⟩)
    (fun os started H enc _ => countPlays_lifted os started H enc)

theorem countPlays_holds : Rows.CountPlaysCardSaid :=
  Claim7.holds_tied_plain_at .later [] [.handle] true Rows.countPlaysCard.stood.harness true
    countPlays_bare (fun _ h => by cases h) (by kernel_rfl) (fun _ h => by cases h) countPlays_row_tie rfl ⟨rfl, rfl⟩ (by kernel_rfl) rfl
    (fun f fn hf hfn => by
      obtain rfl : f = 6 := Option.some.inj ((show Tryd.prog.funcNamed "bootstair/stairlaw2.CountPlays" = some 6 by kernel_rfl).symm.trans hf) |>.symm
      obtain rfl : fn = Tryd.f6 := (Option.some.inj (Tryd.func6.symm.trans hfn)).symm
      exact ⟨by kernel_rfl, fun j t ht => by
        have hm : t ∈ Tryd.f6.params.toList := by simpa using Array.mem_of_getElem? ht
        have hall : (Tryd.f6.params.toList.all fun u => !Tryd.prog.wantsStandIn u) = true := by kernel_rfl
        exact (show Tryd.prog.wantsStandIn t = false by simpa using List.all_eq_true.1 hall t hm)⟩)
    (by kernel_rfl)

end Go.Proofs.YtnocigkfhdnhfaaDoor
