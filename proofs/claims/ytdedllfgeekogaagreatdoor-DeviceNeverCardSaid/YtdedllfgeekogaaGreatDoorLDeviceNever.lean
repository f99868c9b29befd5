/- DeviceNever: whatever is put, started, and good, what runs is no older than the last that was good; what it tells is right by its key. The package variables that the text lays (strconv's tables, errors.errorType) hold what it lays. -/
import Derived.Test.YtdedllfgeekogaaGreatDoorRows
import Derived.Test.YtdedllfgeekogaaGreatDoorOpen
import Derived.Test.YtdedllfgeekogaaGreatDoorOpI
import Derived.Test.YtdedllfgeekogaaGreatDoorOpE
import Derived.Test.YtdedllfgeekogaaGreatDoorOpS
import Derived.Test.YtdedllfgeekogaaGreatDoorOpC
import Derived.Test.YtdedllfgeekogaaGreatDoorKey
import Derived.Test.YtdedllfgeekogaaGreatDoorEvent
import Derived.Test.YtdedllfgeekogaaGreatDoorRule
import Derived.Test.YtdedllfgeekogaaGreatDoorImg
import Derived.Test.YtdedllfgeekogaaGreatDoorImg2
import Derived.Test.YtdedllfgeekogaaGreatDoorFoot
import Derived.Test.YtdedllfgeekogaaGreatDoorSlot
import Derived.Test.YtdedllfgeekogaaGreatDoorSInv
import Derived.Test.YtdedllfgeekogaaGreatDoorCntP
import Derived.Test.YtdedllfgeekogaaGreatDoorCntC
import Derived.Test.YtdedllfgeekogaaGreatDoorUpdP
import Derived.Test.YtdedllfgeekogaaGreatDoorDev
import Derived.Test.YtdedllfgeekogaaGreatDoorDev3
import Derived.Test.YtdedllfgeekogaaGreatDoorJudge
import Derived.Test.YtdedllfgeekogaaGreatDoorJdPlain
import Derived.Test.YtdedllfgeekogaaGreatDoorTold
import Derived.Test.YtdedllfgeekogaaGreatDoorBds
import Derived.Test.YtdedllfgeekogaaGreatDoorLiftD
import Derived.Test.YtdedllfgeekogaaGreatDoorLiftT
import Derived.WalkKit
import Derived.WalkSpells
import Derived.Lib.Hide
import Derived.Deep.DeepCutAuto
import Derived.Deep.CutBlock
import Derived.Deep.CutRange
namespace Go.Proofs.YtdedllfgeekogaaGreatDoor
open Go.ChangeShapes Go.WideShapes Go.ChangeAt Go.RowKit
set_option linter.unusedVariables false
set_option linter.unusedSimpArgs false
set_option maxRecDepth 100000

set_option maxHeartbeats 1000000 in
theorem imgMeasure_ok (n : ByteArray) (v : Int) (c : ByteArray) (w : World) (h : imgE n v c = 0) (hn : n.size ≤ 9000000000000000000) (hc : c.size ≤ 9000000000000000000) (ht : TabT w) :
    Calls Tryz.prog 40 #[.agg #[.string n, .int .i64 v, .string c]] w fun e w' => e = .returned (.tuple #[.int .i64 (imgM n v c), errV 0]) ∧ Below w.heap.size w w' := by
  have en := fun k w => err_neq k w
  have gn := fun o k w => err_guard_neq o k w
  have HT := Lib.hid ht
  have HX := Lib.hid h
  have HB0 := Lib.hid (Box.new w 23 #[.string n, .int .i64 v, .string c])
  clear ht h
  go_enter Tryz.func40, Tryz.ntmps40
  go_wp2_with fail
  refine (imgCheck_any n v c _ hn hc).mono ?_
  rintro e w1 ⟨rfl, hb1⟩
  rw [HX.out]
  have B1 := HB0.out.below hb1
  have cB := B1.cell
  have lB := B1.lt
  clear B1
  go_wp2_with fail
  refine (imgIs_any n v c _ HX.out (HT.out.below (by repeat (first | (with_reducible exact grow_refl _) | (with_reducible assumption) | (with_reducible refine grow_alloc ?_ _) | (with_reducible refine grow_set ?_ (by first | exact Nat.le_refl _ | (simp; done) | (simp; omega) | omega) _) | (with_reducible refine grow_drewN ?_ _) | (with_reducible refine grow_drew ?_) | (with_reducible refine grow_step ?_ (by assumption)) | (with_reducible refine grow_base ?_ (by assumption)))))).mono ?_
  rintro e w2 ⟨rfl, hb2⟩
  go_wp2_with fail
  go_ret2
  exact ⟨rfl, (by repeat (first | (with_reducible exact grow_refl _) | (with_reducible assumption) | (with_reducible refine grow_alloc ?_ _) | (with_reducible refine grow_set ?_ (by first | exact Nat.le_refl _ | (simp; done) | (simp; omega) | omega) _) | (with_reducible refine grow_drewN ?_ _) | (with_reducible refine grow_drew ?_) | (with_reducible refine grow_step ?_ (by assumption)) | (with_reducible refine grow_base ?_ (by assumption))))⟩

def noX : Nat → Prop := fun _ => False
/-- What the loop keeps. -/
structure Nev (w0 w : World) (gd gs b : Nat) (root x : Int) (nb : Nat) (s : Slts) (ls : List Cnt) (o : Option Im) (N : List UInt8) (gv : Int) (F : Array Value) : Prop where
  dev : DevAt w gd gs b root x nb s ls o noX
  inv : InvN N s
  lsn : LsN N ls
  run : ∀ m : Im, o = some m → RunsAs s m.1 m.2.1 m.2.2
  gv : gv = (s.at_ s.safe).v
  fst : Box w w0.heap.size 32 F
  bel : Below w0.heap.size w0 w
theorem Nev.below {w0 w w' : World} {gd gs b : Nat} {root x : Int} {nb : Nat} {s : Slts} {ls : List Cnt} {o : Option Im} {N : List UInt8} {gv : Int} {F : Array Value} (h : Nev w0 w gd gs b root x nb s ls o N gv F) (k : Below w.heap.size w w') : Nev w0 w' gd gs b root x nb s ls o N gv F :=
  ⟨h.dev.below k, h.inv, h.lsn, h.run, h.gv, h.fst.below k, grow_step h.bel k⟩

set_option maxHeartbeats 8000000 in
theorem deviceNever_walk (w : World) (root x : Int) (n : ByteArray) (v : Int) (c : ByteArray) (p a : Int) (L : Option Addr) (l : List Int) (cl : Nat) (A : Option Addr) (cs : List (Int × Int × Int)) (cc : Nat) (M : Option Addr) (ms : List Sgn) (cm : Nat) (k : Int)
    (ir : I64 root) (ix : I64 x) (iv : I64 v) (hn : n.size ≤ 140737488351232) (hc : c.size ≤ 140737488351232) (ip : I64 p) (ia : I64 a) (hL : IntsAt w L l) (hli : ∀ x ∈ l, I64 x) (hll : l.length * 8 ≤ 140737488351232)
    (hA : CertsAt w A cs) (hcz : cs.length * 24 ≤ 140737488351232) (hcc : cs.length ≤ cc)
    (hM : SgnsAt w M ms) (hmz : ms.length * 56 ≤ 140737488351232) (hmc : ms.length ≤ cm) (hms : ∀ i, i < ms.length → (ms.getD i noSgn).1.size ≤ 140737488351232 ∧ (ms.getD i noSgn).2.2.1.size ≤ 140737488351232 ∧ I64 (ms.getD i noSgn).2.1 ∧ I64 (ms.getD i noSgn).2.2.2.1 ∧ I64 (ms.getD i noSgn).2.2.2.2)
    (ik : I64 k) (hg : TabTD w) :
    Calls Tryz.prog 5 #[.int .i64 root, .int .i64 x, .agg #[.string n, .int .i64 v, .string c, .int .i64 p, .int .i64 a], .slice L l.length cl, .slice A cs.length cc, .slice M ms.length cm, .int .i64 k] w fun e w' => e = .returned (.bool true) ∧ Below w.heap.size w w' := by
  have en := fun k w => err_neq k w
  have ee := fun k w => err_eql k w
  have gn := fun o k w => err_guard_neq o k w
  have ge := fun o k w => err_guard_eql o k w
  have HG := Lib.hid hg.2
  have HT := Lib.hid hg.1
  have HLI := Lib.hid hL
  have HA := Lib.hid hA
  have HM := Lib.hid hM
  have HMS := Lib.hid hms
  have HF0 := Lib.hid (Box.new w 32 #[.string n, .int .i64 v, .string c, .int .i64 p, .int .i64 a])
  have hb0 : Below w.heap.size w (w.alloc (.cells #[.string n, .int .i64 v, .string c, .int .i64 p, .int .i64 a] 32)) := grow_alloc (grow_refl _) _
  clear hg hL hA hM hms hli
  go_enter Tryz.func5, Tryz.ntmps5
  go_wp2_with fail
  refine (dNew_on 64 5 ⟨#[111, 115]⟩ 3 ⟨#[]⟩ 0 0 _ (by decide) (by decide) (by decide) (by decide) (by decide)).mono ?_
  rintro e w1 ⟨gd0, b0, gs0, rfl, hD0, hgs0, hb1⟩
  have HD1 := Lib.hid (hD0 noX)
  have HF1 := Lib.hid (HF0.out.below hb1)
  have hbw1 : Below w.heap.size w w1 := grow_step hb0 hb1
  have hgw0 : w.heap.size < gs0 := by have : (w.alloc (.cells #[.string n, .int .i64 v, .string c, .int .i64 p, .int .i64 a] 32)).heap.size = w.heap.size + 1 := by simp
                                      omega
  clear hD0 hb1 hgs0 hb0 HF0
  have HV0 : Hid (Inv (sd0 ⟨#[111, 115]⟩ 3 ⟨#[]⟩ 0 0)) := Lib.hid (Inv.first (by decide) (by decide) (i64_small (by decide) (by decide)) (i64_small (by decide) (by decide)) (i64_small (by decide) (by decide)))
  go_wp2_with fail
  refine (dStart_any _ gd0 gs0 b0 64 5 0 _ [] none noX HD1.out HV0.out w hbw1 (by omega) (by decide) HT.out (fun k h => h.elim)).mono ?_
  rintro e w2 ⟨rfl, hD2, hk2⟩
  rw [show (!(rI (sd0 ⟨#[111, 115]⟩ 3 ⟨#[]⟩ 0 0).pick == rI (sd0 ⟨#[111, 115]⟩ 3 ⟨#[]⟩ 0 0).safe)) = false from rfl]
  have HD2 : Hid (DevAt w2 gd0 gs0 b0 64 5 0 (sd0 ⟨#[111, 115]⟩ 3 ⟨#[]⟩ 0 0) [] (some (⟨#[111, 115]⟩, 3, ⟨#[]⟩)) noX) := Lib.hid hD2
  have l1 := HD2.out.lt1
  have l2 := HD2.out.lt2
  have HF2 := Lib.hid (HF1.out.but hk2 (by intro h; rcases h with h | h <;> omega))
  have hbw2 : Below w.heap.size w w2 := hbw1.trans (hk2.below hbw1.size (by intro j h; rcases h with h | h <;> omega))
  clear hD2 hk2 HD1 HF1 hbw1 HV0
  go_wp2_with fail
  refine (dRuns_on _ gd0 gs0 b0 64 5 0 _ [] _ noX HD2.out ⟨#[111, 115]⟩ 3 ⟨#[]⟩ rfl).mono ?_
  rintro e w3 ⟨rfl, hb3⟩
  have HD3 := Lib.hid ((HD2.out.below hb3).below (grow_alloc (grow_refl _) (.cells #[.string ⟨#[111, 115]⟩, .int .i64 3, .string ⟨#[]⟩] 23)))
  have HF3 := Lib.hid ((HF2.out.below hb3).alloc_ (.cells #[.string ⟨#[111, 115]⟩, .int .i64 3, .string ⟨#[]⟩] 23))
  have hbw3 : Below w.heap.size w (w3.alloc (.cells #[.string ⟨#[111, 115]⟩, .int .i64 3, .string ⟨#[]⟩] 23)) := grow_alloc (grow_step hbw2 hb3) _
  clear hb3 HD2 HF2 hbw2
  go_wp2_with fail
  refine (dGood_on _ gd0 gs0 b0 64 5 0 _ [] _ noX HD3.out ⟨#[111, 115]⟩ 3 ⟨#[]⟩ rfl (by decide) (by decide) (by decide)).mono ?_
  rintro e w4 ⟨rfl, _, hk4⟩
  rw [show dgE (sd0 ⟨#[111, 115]⟩ 3 ⟨#[]⟩ 0 0) [] ⟨#[111, 115]⟩ 3 = 7 from rfl]
  have HF4 := Lib.hid (HF3.out.but hk4 (by intro h; rcases h with h | h <;> omega))
  have hbw4 : Below w.heap.size w w4 := hbw3.trans (hk4.below hbw3.size (by intro j h; rcases h with h | h <;> omega))
  clear hk4 HD3 HF3 hbw3
  go_wp2_with fail
  refine (error_any 7 7 _ (HG.out.below hbw4) (i64_small (by decide) (by decide))).mono ?_
  rintro e w5 ⟨rfl, hb5⟩
  have HF5 := Lib.hid (HF4.out.below hb5)
  have hbw5 : Below w.heap.size w w5 := grow_step hbw4 hb5
  have cF := HF5.out.cell
  have lF := HF5.out.lt
  clear hb5 HF4 hbw4 l1 l2 hgw0
  by_cases hk : okIn root = false ∨ okSecret x = false
  · have HK := Lib.hid hk
    clear hk
    go_wp2_with fail
    refine (devNew_key root x n v c p a _ HK.out).mono ?_
    rintro e w6 ⟨rfl, hb6⟩
    go_wp2_with fail
    go_ret
    exact ⟨rfl, (by repeat (first | (with_reducible exact grow_refl _) | (with_reducible assumption) | (with_reducible refine grow_alloc ?_ _) | (with_reducible refine grow_set ?_ (by first | exact Nat.le_refl _ | (simp; done) | (simp; omega) | omega) _) | (with_reducible refine grow_drewN ?_ _) | (with_reducible refine grow_drew ?_) | (with_reducible refine grow_step ?_ (by assumption)) | (with_reducible refine grow_base ?_ (by assumption))))⟩
  have k1 : okIn root = true := by
    cases h : okIn root
    · exact absurd (Or.inl h) hk
    · rfl
  have k2 : okSecret x = true := by
    cases h : okSecret x
    · exact absurd (Or.inr h) hk
    · rfl
  clear hk
  by_cases hi : imgE n v c = 0
  rotate_left
  · have HI := Lib.hid hi
    obtain ⟨E, hE⟩ : ∃ E, imgE n v c = E := ⟨_, rfl⟩
    have HE := Lib.hid hE
    have t : (E != 0) = true := by rw [← hE]; simp [hi]
    clear hE hi
    go_wp2_with fail
    refine (devNew_img root x n v c p a _ k1 k2 hn hc HI.out).mono ?_
    rintro e w6 ⟨rfl, hb6⟩
    rw [HE.out]
    go_wp2_with fail
    go_ret
    exact ⟨rfl, (by repeat (first | (with_reducible exact grow_refl _) | (with_reducible assumption) | (with_reducible refine grow_alloc ?_ _) | (with_reducible refine grow_set ?_ (by first | exact Nat.le_refl _ | (simp; done) | (simp; omega) | omega) _) | (with_reducible refine grow_drewN ?_ _) | (with_reducible refine grow_drew ?_) | (with_reducible refine grow_step ?_ (by assumption)) | (with_reducible refine grow_base ?_ (by assumption))))⟩
  have HI := Lib.hid hi
  clear hi
  go_wp2_with fail
  refine (dNew_on root x n v c p a _ k1 k2 hn hc HI.out).mono ?_
  rintro e w6 ⟨gd, b, gs, rfl, hD6, hgs, hb6⟩
  have HF6 := Lib.hid (HF5.out.below hb6)
  have hbw6 : Below w.heap.size w w6 := grow_step hbw5 hb6
  have hgw : w.heap.size < gs := by omega
  have HNV : Hid (Nev w w6 gd gs b root x 0 (sd0 n v c p a) [] none n.data.toList v #[.string n, .int .i64 v, .string c, .int .i64 p, .int .i64 a]) := Lib.hid
    ⟨hD6 noX, InvN.first hn hc iv ip ia HI.out, Or.inl rfl, (fun m h => by cases h), rfl, HF6.out, hbw6⟩
  clear cF lF hD6 hgs hb6 HF5 hbw5
  go_wp2_with fail
  refine (public_any x _).mono ?_
  rintro e w7 ⟨rfl, rfl⟩
  rw [pubE_yes k2, pubM_yes k2]
  obtain ⟨Q, hQ⟩ : ∃ Q, pwI 64 x = Q := ⟨_, rfl⟩
  rw [hQ]
  have HQ := Lib.hid hQ
  have cF := HF6.out.cell
  have lF := HF6.out.lt
  clear hQ
  go_wp2_with fail
  clear cF lF HF6 hbw6
  go_loopw [22, 23, 24, 25, 26, 27, 28, 29, 30, 31, 32] (fun g q i _ _ _ _ _ _ _ _ wr => ∃ (k j nb : Nat) (gv : Int) (s : Slts) (ls : List Cnt) (o : Option Im), k ≤ l.length ∧ j ≤ ms.length ∧ nb ≤ k ∧ g = .int .i64 gv ∧ q = .int .i64 j ∧ i = .int .i64 k ∧ Hid (Nev w wr gd gs b root x nb s ls o n.data.toList gv #[.string n, .int .i64 v, .string c, .int .i64 p, .int .i64 a])) (fun _ _ i _ _ _ _ _ _ _ _ _ => l.length - (intOf i).toNat)
  case atStart => exact ⟨0, 0, 0, v, _, _, none, by omega, by omega, by omega, rfl, rfl, rfl, HNV⟩
  case round =>
    clear HNV
    obtain ⟨kk, j, nb, gv, s, ls, o, hkk, hj, hnb, rfl, rfl, rfl, HN⟩ := hrel
    by_cases hlt : kk < l.length
    · have g0 : (kk : Int) < (l.length : Int) := by omega
      by_cases h50 : kk < 50
      · have g1 : (kk : Int) < 50 := by omega
        obtain ⟨y, hy⟩ : ∃ y, l.getD kk 0 = y := ⟨_, rfl⟩
        obtain ⟨bb, off, rfl, _, hcc⟩ := (HLI.out.below HN.out.bel) kk hlt
        rw [hy] at hcc
        clear hy
        go_upto_block 2 with fail
        clear hcc
        go_cut [22, 23, 25, 26] from 96 to 132 (fun g q _ _ wx => ∃ (j nb : Nat) (gv : Int) (s : Slts) (ls : List Cnt) (o : Option Im), j ≤ ms.length ∧ nb ≤ kk + 1 ∧ g = .int .i64 gv ∧ q = .int .i64 j ∧ Hid (Nev w wx gd gs b root x nb s ls o n.data.toList gv #[.string n, .int .i64 v, .string c, .int .i64 p, .int .i64 a]))
        case first =>
          have l1 := HN.out.dev.lt1
          have l2 := HN.out.dev.lt2
          by_cases y0 : y = 0
          · subst y0
            by_cases hin : j < ms.length
            · have gq : (j : Int) < (ms.length : Int) := by omega
              obtain ⟨b1, off1, rfl, _, hcs⟩ := (HM.out.below HN.out.bel) j hin
              obtain ⟨z1, z2, z3, z4, z5⟩ := HMS.out j hin
              obtain ⟨⟨sn, sv, sc, sp, sa⟩, hz⟩ : ∃ z, ms.getD j noSgn = z := ⟨_, rfl⟩
              rw [hz] at hcs z1 z2 z3 z4 z5
              simp only [sgnCs] at hcs z1 z2 z3 z4 z5
              have e0 := hcs 0 (by decide)
              have e1 := hcs 1 (by decide)
              have e2 := hcs 2 (by decide)
              have e3 := hcs 3 (by decide)
              have e4 := hcs 4 (by decide)
              simp [-CellFam.cellOfFamily] at e0 e1 e2 e3 e4
              clear hz hcs
              go_wp2_with fail
              refine (dUpdate_any _ gd gs b root x nb s ls o noX HN.out.dev HN.out.inv.inv A cc cs sn sv sc sp sa (HA.out.below HN.out.bel) (by omega) z1 z2 (HT.out.below HN.out.bel) (fun _ h => h.elim)).mono ?_
              rintro e w8 ⟨rfl, hD8, hk8⟩
              have HN8 : Hid (Nev w w8 gd gs b root x nb (doS root cs ls s (sn, sv, sc, sp, sa)) ls o n.data.toList gv #[.string n, .int .i64 v, .string c, .int .i64 p, .int .i64 a]) := Lib.hid
                ⟨hD8, HN.out.inv.doS root cs ls z1 z2 z3 z4 z5, HN.out.lsn, fun m h => (HN.out.run m h).doS root cs ls (sn, sv, sc, sp, sa), HN.out.gv.trans (doS_safe root cs ls s _ HN.out.inv.inv).symm, HN.out.fst.but hk8 (by intro h; omega), HN.out.bel.trans (hk8.below HN.out.bel.size (by intro j h; omega))⟩
              clear hD8 hk8 HN e0 e1 e2 e3 e4
              go_wp2_with fail
              go_meet
              exact ⟨j + 1, nb, gv, _, ls, o, by omega, by omega, rfl, by go_num, HN8⟩
            · have gq : ¬ (j : Int) < (ms.length : Int) := by omega
              go_wp2_with fail
              go_meet
              exact ⟨j, nb, gv, s, ls, o, hj, by omega, rfl, rfl, HN⟩
          · by_cases y1 : y = 1
            · subst y1
              rcases o with _ | ⟨rn, rv, rc⟩
              · go_wp2_with fail
                refine (dGood_off _ gd gs b root x nb s ls _ noX HN.out.dev rfl).mono ?_
                rintro e w8 ⟨rfl, hb8⟩
                have HN8 := Lib.hid (HN.out.below hb8)
                go_wp2_with fail
                go_meet
                exact ⟨j, nb, gv, s, ls, none, hj, by omega, rfl, rfl, HN8⟩
              · have hR := HN.out.run _ rfl
                have hok : imgE rn rv rc = 0 ∧ rn.data.toList = n.data.toList := hR.ok HN.out.inv
                have hls := HN.out.lsn.raise hok.1 hok.2
                have hsz : rn.size ≤ 140737488351232 := by obtain ⟨_, _, _, h1, h2, h3, h4⟩ := imgE_ok hok.1; omega
                go_wp2_with fail
                refine (dGood_on _ gd gs b root x nb s ls _ noX HN.out.dev rn rv rc rfl (by omega) HN.out.lsn.len hsz).mono ?_
                rintro e w8 ⟨rfl, ⟨n', hn', hD8⟩, hk8⟩
                have hfst := HN.out.fst.but hk8 (by intro h; rcases h with h | h <;> omega)
                have hbel := HN.out.bel.trans (hk8.below HN.out.bel.size (by intro j h; rcases h with h | h <;> omega))
                have hrl := run_least HN.out.inv
                cases hgg : (s.at_ s.r).g
                · obtain ⟨hm1, hm2⟩ := run_more HN.out.inv hgg
                  have e1 : dgE s ls rn rv = 0 := by unfold dgE; rw [hgg]; exact hls.1
                  have e2 : dgL s ls rn rv = raiseL ls rn rv := by unfold dgL; rw [hgg]; rfl
                  rw [e2] at hD8
                  have hrv : rv = (s.at_ s.r).v := hR.2.1
                  have HN8 : Hid (Nev w w8 gd gs b root x n' (goodS s) (raiseL ls rn rv) (some (rn, rv, rc)) n.data.toList rv #[.string n, .int .i64 v, .string c, .int .i64 p, .int .i64 a]) := Lib.hid
                    ⟨hD8, HN.out.inv.goodS, hls.2, (fun m h => by cases h; exact hR.goodS), hrv.trans hm2.symm, hfst, hbel⟩
                  have hgv : gv < rv := by rw [HN.out.gv, hrv]; exact hm1
                  have t : ¬ rv ≤ gv := by omega
                  rw [e1]
                  clear hD8 hfst hbel e1 e2 hls hok hR hrl hm1 hm2 HN hrv hgg hk8
                  go_wp2_with fail
                  refine (dRuns_on _ gd gs b root x n' _ _ _ noX HN8.out.dev rn rv rc rfl).mono ?_
                  rintro e w9 ⟨rfl, hb9⟩
                  have HN9 := Lib.hid (HN8.out.below hb9)
                  clear hb9 HN8
                  go_wp2_with fail
                  go_meet
                  exact ⟨j, n', rv, _, _, _, hj, by omega, rfl, rfl, Lib.hid (HN9.out.below (by first | exact grow_alloc (grow_refl _) _ | exact grow_drew (grow_alloc (grow_refl _) _)))⟩
                · have e1 : dgE s ls rn rv = 7 := by unfold dgE; rw [hgg]; rfl
                  have e2 : dgL s ls rn rv = ls := by unfold dgL; rw [hgg]; rfl
                  have e3 : goodS s = s := by unfold goodS; rw [hgg]; rfl
                  rw [e2, e3] at hD8
                  have HN8 : Hid (Nev w w8 gd gs b root x n' s ls (some (rn, rv, rc)) n.data.toList gv #[.string n, .int .i64 v, .string c, .int .i64 p, .int .i64 a]) := Lib.hid
                    ⟨hD8, HN.out.inv, HN.out.lsn, HN.out.run, HN.out.gv, hfst, hbel⟩
                  rw [e1]
                  clear hD8 hfst hbel e1 e2 e3 hls hok hR hrl HN hgg hk8
                  go_wp2_with fail
                  go_meet
                  exact ⟨j, n', gv, s, ls, _, hj, by omega, rfl, rfl, HN8⟩
            · have yy0 : (y == 0) = false := by simp [y0]
              have yy1 : (y == 1) = false := by simp [y1]
              have hpk := HN.out.inv.pick
              clear y0 y1
              go_wp2_with fail
              refine (dStart_any _ gd gs b root x nb s ls o noX HN.out.dev HN.out.inv.inv w HN.out.bel (by omega) hpk.1 HT.out (fun k h => h.elim)).mono ?_
              rintro e w8 ⟨rfl, hD8, hk8⟩
              have HN8 : Hid (Nev w w8 gd gs b root x nb (startS s) ls (some ((s.at_ s.pick).n, (s.at_ s.pick).v, (s.at_ s.pick).c)) n.data.toList gv #[.string n, .int .i64 v, .string c, .int .i64 p, .int .i64 a]) := Lib.hid
                ⟨hD8, HN.out.inv.startS, HN.out.lsn, (fun m h => by cases h; exact RunsAs.startS HN.out.inv.inv), HN.out.gv.trans (startS_sv HN.out.inv.inv).symm, HN.out.fst.but hk8 (by intro h; rcases h with h | h <;> omega), HN.out.bel.trans (hk8.below HN.out.bel.size (by intro j h; rcases h with h | h <;> omega))⟩
              clear hD8 hk8 hpk HN
              go_wp2_with fail
              go_meet
              exact ⟨j, nb, gv, _, ls, _, hj, by omega, rfl, rfl, HN8⟩
        case rest =>
          clear HN hj hnb
          obtain ⟨j, nb, gv, s, ls, o, hj, hnb, rfl, rfl, HN⟩ := hcut
          rcases o with _ | ⟨rn, rv, rc⟩
          · go_wp2_with fail
            refine (dRuns_off _ gd gs b root x nb s ls _ noX HN.out.dev rfl).mono ?_
            rintro e w8 ⟨rfl, hb8⟩
            have HN8 := Lib.hid (HN.out.below hb8)
            go_wp2_with fail
            go_roundw
            case rel => exact ⟨kk + 1, j, nb, gv, s, ls, none, by omega, hj, hnb, rfl, rfl, by go_num, Lib.hid (HN8.out.below (grow_alloc (grow_refl _) _))⟩
            case measure => simp [intOf]; omega
          · have hR := HN.out.run _ rfl
            have hok : imgE rn rv rc = 0 ∧ rn.data.toList = n.data.toList := hR.ok HN.out.inv
            have hrl := run_least HN.out.inv
            have hrv : rv = (s.at_ s.r).v := hR.2.1
            have t : ¬ rv < gv := by rw [HN.out.gv, hrv]; omega
            have tn : (rn.toList == n.toList) = true := by rw [ByteArray.toList_eq, ByteArray.toList_eq, hok.2]; simp
            have HIM := Lib.hid hok.1
            have hsz : rn.size ≤ 9000000000000000000 ∧ rc.size ≤ 9000000000000000000 := by obtain ⟨_, _, _, h1, h2, h3, h4⟩ := imgE_ok hok.1; omega
            clear hR hok hrl hrv
            go_wp2_with fail
            refine (dRuns_on _ gd gs b root x nb s ls _ noX HN.out.dev rn rv rc rfl).mono ?_
            rintro e w8 ⟨rfl, hb8⟩
            have HN8 := Lib.hid ((HN.out.below hb8).below (grow_alloc (grow_refl _) (.cells #[.string rn, .int .i64 rv, .string rc] 23)))
            have HI8 := Lib.hid (Box.new w8 23 #[.string rn, .int .i64 rv, .string rc])
            have cF := HN8.out.fst.cell
            have lF := HN8.out.fst.lt
            have cI := HI8.out.cell
            have lI := HI8.out.lt
            clear hb8 HN
            go_wp2_with fail
            clear cF lF cI
            obtain ⟨E, hE⟩ : ∃ E, mkE x k kk 1 (evBank [(0, imgM rn rv rc)]) = E := ⟨_, rfl⟩
            have HE := Lib.hid hE
            obtain ⟨⟨v1, v2, v3, v4, v5⟩, hv⟩ : ∃ v, mkV x k kk 1 (evBank [(0, imgM rn rv rc)]) = v := ⟨_, rfl⟩
            have HV := Lib.hid hv
            clear hE hv
            refine (dTell_on _ gd gs b root x nb s ls _ noX HN8.out.dev rn rv rc rfl k kk 1 (v1, v2, v3, v4, v5) HV.out.symm E HE.out).mono ?_
            rintro e w9 ⟨TA, tc, rfl, hE9, hb9⟩
            have HN9 := Lib.hid (HN8.out.below hb9)
            have HI9 := Lib.hid (HI8.out.below hb9)
            have HE9 := Lib.hid hE9
            clear hb9 hE9 HN8 HI8 lI
            by_cases h2 : E = 0
            rotate_left
            · have t2 : (E != 0) = true := by simp [h2]
              have HTL : Hid (tellEs E (imgM rn rv rc) = []) := Lib.hid (by unfold tellEs; rw [if_neg h2])
              rw [HTL.out]
              clear h2
              go_wp2_with fail
              go_roundw
              case rel => exact ⟨kk + 1, j, nb, gv, s, ls, _, by omega, hj, hnb, rfl, rfl, by go_num, Lib.hid (HN9.out.below (grow_alloc (grow_refl _) _))⟩
              case measure => simp [intOf]; omega
            subst h2
            obtain ⟨MM, hMM⟩ : ∃ MM, imgM rn rv rc = MM := ⟨_, rfl⟩
            have HMM := Lib.hid hMM
            have HTL : Hid (tellEs 0 (imgM rn rv rc) = [(0, MM)]) := Lib.hid (by unfold tellEs; rw [if_pos rfl, hMM])
            rw [HTL.out]
            rw [HTL.out] at HE9
            have hmo := make_ok HE.out
            have hEV : evE [(0, MM)] = 0 := by
              have hok : okM MM = true := by rw [← hMM]; exact imgM_ok _ _ _
              unfold evE
              have : ([(0, MM)] : List (Int × Int)).all okEv = true := by simp [okEv, hok]; decide
              rw [this]; rfl
            have HVV : Hid (v1 = kk ∧ v2 = 1 ∧ v3 = isM (evBank [(0, MM)]) 1 ∧ v4 = sgP x k (rowM [(kk : Int), 1, isM (evBank [(0, MM)]) 1]) ∧ v5 = sgA x k (rowM [(kk : Int), 1, isM (evBank [(0, MM)]) 1])) := Lib.hid (by
              have h3 := hmo.2.2.2.2.2.1
              rw [HV.out, hMM] at h3
              simpa only [Prod.mk.injEq] using h3)
            have HS : Hid (sureE Q v1 v2 v3 v4 v5 kk [(0, MM)] [] = 0) := Lib.hid (by
              obtain ⟨q1, q2, q3, q4, q5⟩ := HVV.out
              have hmk : mkE x k kk 1 (evBank [(0, MM)]) = 0 := by rw [← hMM]; exact HE.out
              have h3 := sure_of (P := v4) (A := v5) (rs := []) hmk hEV q4.symm q5.symm
              rw [HQ.out, ← q3] at h3
              rw [q1, q2, h3]
              rfl)
            clear hmo hEV hMM
            obtain ⟨tb, to_, rfl, tl, tc1, tc2⟩ := HE9.out 0 (by simp)
            have HX9 := Lib.hid ((HN9.out.below (grow_alloc (grow_refl _) (.cells #[.int .i64 v1, .int .i64 v2, .int .i64 v3, .int .i64 v4, .int .i64 v5] 39))))
            have HIa := Lib.hid (HI9.out.alloc_ (.cells #[.int .i64 v1, .int .i64 v2, .int .i64 v3, .int .i64 v4, .int .i64 v5] 39))
            have HQa := Lib.hid (Box.new w9 39 #[.int .i64 v1, .int .i64 v2, .int .i64 v3, .int .i64 v4, .int .i64 v5])
            have HEa := Lib.hid (HE9.out.below (grow_alloc (grow_refl _) (.cells #[.int .i64 v1, .int .i64 v2, .int .i64 v3, .int .i64 v4, .int .i64 v5] 39)))
            have cI := HIa.out.cell
            have lI := HIa.out.lt
            clear tc1 tc2 tl HE9 HI9 HN9
            go_wp2_with fail
            clear cI lI
            refine (imgMeasure_ok rn rv rc _ HIM.out hsz.1 hsz.2 (HT.out.below HX9.out.bel)).mono ?_
            rintro e w10 ⟨rfl, hb10⟩
            rw [HMM.out]
            have HN10 := Lib.hid (HX9.out.below hb10)
            have HQ10 := Lib.hid (HQa.out.below hb10)
            have hE10 := HEa.out.below hb10
            have HE10 := Lib.hid hE10
            obtain ⟨tb', to2, te', tl, tc1, tc2⟩ := hE10 0 (by simp)
            injection te' with te'
            injection te' with q1 q2
            subst q1
            subst q2
            have cQ := HQ10.out.cell
            have lQ := HQ10.out.lt
            simp [-CellFam.cellOfFamily] at tc1 tc2
            clear hb10 hE10 HX9 HQa HEa HIa
            go_wp2_with fail
            clear cQ lQ tc1 tc2
            refine (judgeSure_any Q v1 v2 v3 v4 v5 kk _ [(0, MM)] _ none [] 0 _ HE10.out (by simp) (RulesAt.nil_ _ _) (Nat.le_refl _) (by simp) (by simp)).mono ?_
            rintro e w11 ⟨rfl, hb11⟩
            rw [HS.out]
            have HN11 := Lib.hid (HN10.out.below hb11)
            clear hb11 HN10 HQ10 HE10
            go_wp2_with fail
            go_roundw
            case rel => exact ⟨kk + 1, j, nb, gv, s, ls, _, by omega, hj, hnb, rfl, rfl, by go_num, HN11⟩
            case measure => simp [intOf]; omega
      · go_wp2_with fail
        go_ret
        exact ⟨rfl, HN.out.bel⟩
    · go_wp2_with fail
      go_ret
      exact ⟨rfl, HN.out.bel⟩

set_option maxRecDepth 100000 in
theorem deviceNever_walks (H : Type) (enc : TypeId × Value → H) : WalksD enc Tryz.prog TabTD 5 Tryz.f5 := by
  intro W base args ds p hval hA hlt hsz hsh hdoor
  have hsz0 := hsz
  rw [Tryz.params5] at hA hval
  obtain ⟨v0, vs0, d0, ds0, p0, q0, hargs, rfl, rfl, h0, r0⟩ := trodAll_cons hA
  obtain ⟨v1, vs1, d1, ds1, p1, q1, rfl, rfl, rfl, h1, r1⟩ := trodAll_cons r0
  obtain ⟨v2, vs2, d2, ds2, p2, q2, rfl, rfl, rfl, h2, r2⟩ := trodAll_cons r1
  obtain ⟨v3, vs3, d3, ds3, p3, q3, rfl, rfl, rfl, h3, r3⟩ := trodAll_cons r2
  obtain ⟨v4, vs4, d4, ds4, p4, q4, rfl, rfl, rfl, h4, r4⟩ := trodAll_cons r3
  obtain ⟨v5, vs5, d5, ds5, p5, q5, rfl, rfl, rfl, h5, r5⟩ := trodAll_cons r4
  obtain ⟨v6, vs6, d6, ds6, p6, q6, rfl, rfl, rfl, h6, r6⟩ := trodAll_cons r5
  obtain ⟨rfl, rfl, rfl⟩ := trodAll_nil r6
  obtain rfl : args = #[v0, v1, v2, v3, v4, v5, v6] := by cases args; simp_all
  obtain ⟨a0, rfl, w0⟩ := op_int (hval 0 3 v0 rfl rfl) h0
  obtain ⟨a1, rfl, w1⟩ := op_int (hval 1 3 v1 rfl rfl) h1
  obtain ⟨a2, b2, c2, p2_, q2_, rfl, w2, u2, z2, y2, t2⟩ := op_signed (hval 2 32 v2 rfl rfl) h2 (w_each hsz 2 32 _ (by rw [Tryz.params5]; rfl) rfl)
  obtain ⟨A3, a3, c3, rfl, w3, i3, z3⟩ := op_ints (hval 3 60 v3 rfl rfl) h3 (fun x hx => hlt x (by simp [hx])) (w_each hsz 3 60 _ (by rw [Tryz.params5]; rfl) rfl)
  obtain ⟨A4, a4, c4, rfl, w4, z4, y4⟩ := op_certs (hval 4 61 v4 rfl rfl) h4 (fun x hx => hlt x (by simp [hx])) (w_each hsz 4 61 _ (by rw [Tryz.params5]; rfl) rfl)
  obtain ⟨A5, a5, c5, rfl, w5, z5, y5, g5⟩ := op_signeds (hval 5 62 v5 rfl rfl) h5 (fun x hx => hlt x (by simp [hx])) (w_each hsz 5 62 _ (by rw [Tryz.params5]; rfl) rfl)
  obtain ⟨a6, rfl, w6⟩ := op_int (hval 6 3 v6 rfl rfl) h6
  exact deviceNever_walk W a0 a1 a2 b2 c2 p2_ q2_ A3 a3 c3 A4 a4 c4 A5 a5 c5 a6 w0 w1 w2 u2 z2 y2 t2 w3 i3 z3 w4 z4 y4 w5 z5 y5 g5 w6 hdoor

set_option maxRecDepth 100000 in
theorem deviceNever_lifted (os : Os) (started : os.Started) (H : Type) (enc : TypeId × Value → H) :
    ReturnsInHanded {} Tryz.checked os 5 .any (fun w args => (Rows.deviceNeverSpec.pre enc Tryz.checked.prog Tryz.f5 [] false w args ∧ laidMetH Tryz.checked.prog LaidTD w) ∧ sizedMet enc Tryz.checked.prog Tryz.f5 (OpenSpec.ofChange Rows.deviceNeverSpec) false w args) (Rows.deviceNeverSpec.post enc Tryz.checked.prog Tryz.f5 false true false false) :=
  returns_of_walkD (C := Tryz.checked) (s := Rows.deviceNeverSpec) (L := LaidTD) (D := TabTD) own started (by kernel_rfl) Tryz.func5
    (ChangeSpec.witness_at (enc := enc) (C := Tryz.checked) (os := os) (X := fun w _ => laidMetH Tryz.prog LaidTD w) false (laidWorldTD os) #[.int .i64 0, .int .i64 0, .agg #[.string ⟨#[]⟩, .int .i64 0, .string ⟨#[]⟩, .int .i64 0, .int .i64 0], .slice none 0 0, .slice none 0 0, .slice none 0 0, .int .i64 0] 8 rfl (by kernel_rfl) (by kernel_rfl) (by kernel_rfl) (by kernel_rfl) (by kernel_rfl) (laidWorldTD_met os _))
    (fun W h => tabTD_of_laid h) laidOut (by kernel_rfl) rfl Tryz.underlying4 rfl (fun ds h => by match ds, h with | [_, _, _, _, _, _, _], _ => rfl) (deviceNever_walks H enc)

theorem deviceNever_bare : Rows.DeviceNeverSaid :=
  OpenClaim.holds_of_wide 5 Tryz.f5 rfl rfl rfl rfl rfl rfl rfl ⟨rfl, rfl, rfl, rfl, rfl⟩ rfl rfl rfl rfl rfl (by kernel_rfl) Tryz.func5 (by kernel_rfl)
    (of_decide_eq_true (by kernel_rfl)) (by unfold Func.isWrapper; rw [if_neg (of_decide_eq_false (by kernel_rfl))]; exact ⟨rfl, rfl⟩)
    (fun os started H enc _ => deviceNever_lifted os started H enc)

theorem deviceNever_holds : Rows.DeviceNeverCardSaid :=
  Claim7.holds_tied_plain_at .later [] [.data, .data, .data, .handle] true Rows.deviceNeverCard.stood.harness true
    deviceNever_bare (fun _ h => by cases h) (by kernel_rfl) (fun _ h => by cases h) deviceNever_row_tie rfl ⟨rfl, rfl⟩ (by kernel_rfl) rfl
    (fun f fn hf hfn => by
      obtain rfl : f = 5 := Option.some.inj ((show Tryz.prog.funcNamed "bootstair/stairlaw2.DeviceNever" = some 5 by kernel_rfl).symm.trans hf) |>.symm
      obtain rfl : fn = Tryz.f5 := (Option.some.inj (Tryz.func5.symm.trans hfn)).symm
      exact ⟨by kernel_rfl, fun j t ht => by
        have hm : t ∈ Tryz.f5.params.toList := by simpa using Array.mem_of_getElem? ht
        have hall : (Tryz.f5.params.toList.all fun u => !Tryz.prog.wantsStandIn u) = true := by kernel_rfl
        exact (show Tryz.prog.wantsStandIn t = false by simpa using List.all_eq_true.1 hall t hm)⟩)
    (by kernel_rfl)

end Go.Proofs.YtdedllfgeekogaaGreatDoor
