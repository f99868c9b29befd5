/- DevicePlays: anything that a device does: what is refused, what runs, and what it tells, as the reference says. The package variables that the text lays (strconv's tables, errors.errorType) hold what it lays. -/
import Derived.Test.YtdedllfgeekogaaGreatDoorRows
import Derived.Test.YtdedllfgeekogaaGreatDoorOpen
import Derived.Test.YtdedllfgeekogaaGreatDoorOpI
import Derived.Test.YtdedllfgeekogaaGreatDoorOpE
import Derived.Test.YtdedllfgeekogaaGreatDoorOpS
import Derived.Test.YtdedllfgeekogaaGreatDoorOpC
import Derived.Test.YtdedllfgeekogaaGreatDoorKey
import Derived.Test.YtdedllfgeekogaaGreatDoorCert
import Derived.Test.YtdedllfgeekogaaGreatDoorBank
import Derived.Test.YtdedllfgeekogaaGreatDoorEvent
import Derived.Test.YtdedllfgeekogaaGreatDoorImg
import Derived.Test.YtdedllfgeekogaaGreatDoorImg2
import Derived.Test.YtdedllfgeekogaaGreatDoorRefA
import Derived.Test.YtdedllfgeekogaaGreatDoorRefB
import Derived.Test.YtdedllfgeekogaaGreatDoorRefK
import Derived.Test.YtdedllfgeekogaaGreatDoorRefI
import Derived.Test.YtdedllfgeekogaaGreatDoorRefL
import Derived.Test.YtdedllfgeekogaaGreatDoorRefS2
import Derived.Test.YtdedllfgeekogaaGreatDoorFoot
import Derived.Test.YtdedllfgeekogaaGreatDoorSlot
import Derived.Test.YtdedllfgeekogaaGreatDoorRSlot
import Derived.Test.YtdedllfgeekogaaGreatDoorSInv
import Derived.Test.YtdedllfgeekogaaGreatDoorSgEq
import Derived.Test.YtdedllfgeekogaaGreatDoorEvSame
import Derived.Test.YtdedllfgeekogaaGreatDoorCntP
import Derived.Test.YtdedllfgeekogaaGreatDoorCntR
import Derived.Test.YtdedllfgeekogaaGreatDoorCntC
import Derived.Test.YtdedllfgeekogaaGreatDoorUpdP
import Derived.Test.YtdedllfgeekogaaGreatDoorUpd
import Derived.Test.YtdedllfgeekogaaGreatDoorRUpd
import Derived.Test.YtdedllfgeekogaaGreatDoorQuote
import Derived.Test.YtdedllfgeekogaaGreatDoorDev
import Derived.Test.YtdedllfgeekogaaGreatDoorDev3
import Derived.Test.YtdedllfgeekogaaGreatDoorTold
import Derived.Test.YtdedllfgeekogaaGreatDoorBds
import Derived.Test.YtdedllfgeekogaaGreatDoorLiftD
import Derived.Test.YtdedllfgeekogaaGreatDoorLiftT
import Derived.WalkKit
import Derived.WalkSpells
import Derived.Lib.Hide
import Derived.DeepKeys
import Derived.WalkArith
import Derived.Deep.DeepCutAuto
import Derived.Deep.CutBlock
import Derived.Deep.CutRange
import Derived.Deep.RegionHeld3
namespace Go.Proofs.YtdedllfgeekogaaGreatDoor
open Go.ChangeShapes Go.WideShapes Go.ChangeAt Go.RowKit
set_option linter.unusedVariables false
set_option linter.unusedSimpArgs false
set_option maxRecDepth 100000

theorem eqIm (n : ByteArray) (v : Int) (c : ByteArray) (hn : n.size ≤ 140737488351232) (hc : c.size ≤ 140737488351232) (iv : I64 v) (w : World) : (binOp .eql 23 (.agg #[.string n, .int .i64 v, .string c]) (.agg #[.string n, .int .i64 v, .string c])).run Tryz.prog w = .ok (.bool true) w := by
  have k := imLits n v c hn hc iv
  have f : Value.formed Tryz.prog 23 (.agg #[.string n, .int .i64 v, .string c]) = true := by
    have c1 : Program.cellsOf Tryz.prog 23 = 3 := by kernel_rfl
    simp [Value.formed, Tryz.underlying23, c1]
  obtain ⟨r, hr, hi⟩ := run_equalIn_deep (P := Tryz.prog) 9998 2 23 (by kernel_rfl) w 2 2 (.agg #[.string n, .int .i64 v, .string c]) (.agg #[.string n, .int .i64 v, .string c]) _ _ f f (by simpa [Value.cells] using k) (by simpa [Value.cells] using k)
  rw [hi.2 rfl] at hr
  have hr' : (Op.equalIn 10000 23 (.agg #[.string n, .int .i64 v, .string c]) (.agg #[.string n, .int .i64 v, .string c])).run Tryz.prog w = .ok true w := hr
  rw [run_eql_struct, hr']; rfl
theorem eqQt (a b c d e : Int) (w : World) : (binOp .eql 39 (.agg #[.int .i64 a, .int .i64 b, .int .i64 c, .int .i64 d, .int .i64 e]) (.agg #[.int .i64 a, .int .i64 b, .int .i64 c, .int .i64 d, .int .i64 e])).run Tryz.prog w = .ok (.bool true) w := by
  have h : (Op.equalIn 10000 39 (.agg #[.int .i64 a, .int .i64 b, .int .i64 c, .int .i64 d, .int .i64 e]) (.agg #[.int .i64 a, .int .i64 b, .int .i64 c, .int .i64 d, .int .i64 e])).run Tryz.prog w = .ok true w := by
    simp [go_sem, Op.eqFields, Tryz.underlying39, Tryz.underlying30, Tryz.underlying3, part]
  rw [run_eql_struct, h]; rfl
theorem guardQt (x0 x1 x2 x3 x4 y0 y1 y2 y3 y4 : Value) (op : BinOp) (o p : Operand) (w : World) : (eqGuard op 39 o p (.agg #[x0, x1, x2, x3, x4]) (.agg #[y0, y1, y2, y3, y4])).run Tryz.prog w = .ok () w := by
  cases op <;> kernel_rfl

theorem fieldSg (n : ByteArray) (v : Int) (c : ByteArray) (p a : Int) (w : World) : (Instr.field 32 (.agg #[.string n, .int .i64 v, .string c, .int .i64 p, .int .i64 a]) 0).run Tryz.prog w = .ok (.agg #[.string n, .int .i64 v, .string c]) w := by kernel_rfl

def imO : Option Im → Im
  | none => (⟨#[]⟩, 0, ⟨#[]⟩)
  | some m => m
def imCells (m : Im) : Array Value := #[.string m.1, .int .i64 m.2.1, .string m.2.2]
def XX (gr gc lb gi : Nat) : Nat → Prop := fun j => j = gr ∨ j = gc ∨ j = lb ∨ j = gi
/-- What the loop keeps. -/
structure Ply (w0 w : World) (gd gs b gr gc lb gi : Nat) (root x : Int) (nb : Nat) (s : Slts) (ls : List Cnt) (o : Option Im) (N : List UInt8) : Prop where
  dev : DevAt w gd gs b root x nb s ls o (XX gr gc lb gi)
  rs : Box w gr 122 s.cs
  rc : RC3 w gc lb ls
  run : Box w gi 23 (imCells (imO o))
  inv : InvN N s
  lsn : LsN N ls
  asr : ∀ m : Im, o = some m → RunsAs s m.1 m.2.1 m.2.2
  s1 : gd < gr ∧ gr < gc ∧ gc < gi ∧ gi < w.heap.size
  s2 : lb = gc ∨ (gi < lb ∧ lb < w.heap.size)
  s3 : w0.heap.size ≤ gs
  bel : Below w0.heap.size w0 w
theorem Ply.below {w0 w w' : World} {gd gs b gr gc lb gi : Nat} {root x : Int} {nb : Nat} {s : Slts} {ls : List Cnt} {o : Option Im} {N : List UInt8} (h : Ply w0 w gd gs b gr gc lb gi root x nb s ls o N) (k : Below w.heap.size w w') : Ply w0 w' gd gs b gr gc lb gi root x nb s ls o N :=
  ⟨h.dev.below k, h.rs.below k, h.rc.below k, h.run.below k, h.inv, h.lsn, h.asr, ⟨h.s1.1, h.s1.2.1, h.s1.2.2.1, Nat.lt_of_lt_of_le h.s1.2.2.2 k.size⟩, h.s2.imp id (fun q => ⟨q.1, Nat.lt_of_lt_of_le q.2 k.size⟩), h.s3, grow_step h.bel k⟩
theorem make_okD {x k n m : Int} {b : List Int} (h : mkE x k n m b = 0) : mkV x k n m b = (n, m, isM b m, sgP x k (rowM [n, m, isM b m]), sgA x k (rowM [n, m, isM b m])) := by
  have hv : mkV x k n m b = (n, m, digM b m, sgP x k (rowM [n, m, digM b m]), sgA x k (rowM [n, m, digM b m])) := by unfold mkV; rw [if_pos h]
  unfold mkE at h
  cases hn : okM n
  · rw [hn, if_neg (by decide)] at h; exact absurd h (by decide)
  · rw [hn, if_pos rfl] at h
    by_cases hd : digE b m = 0
    · unfold digE at hd
      cases hb : (b.all okM && okMask m)
      · rw [hb] at hd; exact absurd hd (by decide)
      · have hdm : digM b m = isM b m := by unfold digM; rw [hb, if_pos rfl]
        rw [hdm] at hv
        exact hv
    · rw [if_neg hd] at h; exact absurd h hd
theorem bank0 (M : Int) : evBank [(0, M)] = [pairM 0 M, 0, 0, 0, 0, 0, 0, 0] := rfl

set_option maxHeartbeats 8000000 in
theorem devicePlays_walk (w : World) (root x : Int) (n : ByteArray) (v : Int) (c : ByteArray) (p a : Int) (L : Option Addr) (l : List Int) (cl : Nat) (A : Option Addr) (cs : List (Int × Int × Int)) (cc : Nat) (M : Option Addr) (ms : List Sgn) (cm : Nat) (k mk : Int)
    (ir : I64 root) (ix : I64 x) (iv : I64 v) (hn : n.size ≤ 140737488351232) (hc : c.size ≤ 140737488351232) (ip : I64 p) (ia : I64 a) (hL : IntsAt w L l) (hli : ∀ x ∈ l, I64 x) (hll : l.length * 8 ≤ 140737488351232)
    (hA : CertsAt w A cs) (hcz : cs.length * 24 ≤ 140737488351232) (hcc : cs.length ≤ cc)
    (hM : SgnsAt w M ms) (hmz : ms.length * 56 ≤ 140737488351232) (hmc : ms.length ≤ cm) (hms : ∀ i, i < ms.length → (ms.getD i noSgn).1.size ≤ 140737488351232 ∧ (ms.getD i noSgn).2.2.1.size ≤ 140737488351232 ∧ I64 (ms.getD i noSgn).2.1 ∧ I64 (ms.getD i noSgn).2.2.2.1 ∧ I64 (ms.getD i noSgn).2.2.2.2)
    (ik : I64 k) (imk : I64 mk) (hg : TabTD w) :
    Calls Tryz.prog 4 #[.int .i64 root, .int .i64 x, .agg #[.string n, .int .i64 v, .string c, .int .i64 p, .int .i64 a], .slice L l.length cl, .slice A cs.length cc, .slice M ms.length cm, .int .i64 k, .int .i64 mk] w fun e w' => e = .returned (.bool true) ∧ Below w.heap.size w w' := by
  have en := fun k w => err_neq k w
  have ee := fun k w => err_eql k w
  have gn := fun o k w => err_guard_neq o k w
  have ge := fun o k w => err_guard_eql o k w
  have HG := Lib.hid hg.2
  have HT := Lib.hid hg.1
  have HLI := Lib.hid hL
  have HA := Lib.hid hA
  have HM := Lib.hid hM
  have HMS := Lib.hid hms
  have HF0 := Lib.hid (Box.new w 32 #[.string n, .int .i64 v, .string c, .int .i64 p, .int .i64 a])
  have hb0 : Below w.heap.size w (w.alloc (.cells #[.string n, .int .i64 v, .string c, .int .i64 p, .int .i64 a] 32)) := grow_alloc (grow_refl _) _
  clear hg hL hA hM hms hli
  by_cases hk : okIn root = false ∨ okSecret x = false
  · have HK := Lib.hid hk
    have hx : okIn root = false ∨ (okIn root = true ∧ okSecret x = false) := by
      cases h1 : okIn root
      · exact Or.inl rfl
      · right; refine ⟨rfl, ?_⟩; rcases hk with h | h; rw [h1] at h; cases h; exact h
    clear hk
    rcases hx with k1 | ⟨k1, k2⟩
    · have cF := HF0.out.cell
      have lF := HF0.out.lt
      go_enter Tryz.func4, Tryz.ntmps4
      go_wp2_with (first | (go_at_call 20; refine (rIn_any _ _).mono ?_; rintro e w' ⟨rfl, rfl⟩; rw [k1]) | (go_at_call 21; refine (rSecret_any _ _).mono ?_; rintro e w' ⟨rfl, rfl⟩))
      refine (devNew_key root x n v c p a _ HK.out).mono ?_
      rintro e w1 ⟨rfl, hb1⟩
      have hbw1 : Below w.heap.size w w1 := grow_step hb0 hb1
      clear cF
      go_wp2_with fail
      refine (error_any 1 1 _ (HG.out.below hbw1) (i64_small (by decide) (by decide))).mono ?_
      rintro e w2 ⟨rfl, hb2⟩
      go_wp2_with fail
      go_ret
      exact ⟨rfl, (by repeat (first | (with_reducible exact grow_refl _) | (with_reducible assumption) | (with_reducible refine grow_alloc ?_ _) | (with_reducible refine grow_set ?_ (by first | exact Nat.le_refl _ | (simp; done) | (simp; omega) | omega) _) | (with_reducible refine grow_drewN ?_ _) | (with_reducible refine grow_drew ?_) | (with_reducible refine grow_step ?_ (by assumption)) | (with_reducible refine grow_base ?_ (by assumption))))⟩
    · have cF := HF0.out.cell
      have lF := HF0.out.lt
      go_enter Tryz.func4, Tryz.ntmps4
      go_wp2_with (first | (go_at_call 20; refine (rIn_any _ _).mono ?_; rintro e w' ⟨rfl, rfl⟩; rw [k1]) | (go_at_call 21; refine (rSecret_any _ _).mono ?_; rintro e w' ⟨rfl, rfl⟩; rw [k2]))
      refine (devNew_key root x n v c p a _ HK.out).mono ?_
      rintro e w1 ⟨rfl, hb1⟩
      have hbw1 : Below w.heap.size w w1 := grow_step hb0 hb1
      clear cF
      go_wp2_with fail
      refine (error_any 1 1 _ (HG.out.below hbw1) (i64_small (by decide) (by decide))).mono ?_
      rintro e w2 ⟨rfl, hb2⟩
      go_wp2_with fail
      go_ret
      exact ⟨rfl, (by repeat (first | (with_reducible exact grow_refl _) | (with_reducible assumption) | (with_reducible refine grow_alloc ?_ _) | (with_reducible refine grow_set ?_ (by first | exact Nat.le_refl _ | (simp; done) | (simp; omega) | omega) _) | (with_reducible refine grow_drewN ?_ _) | (with_reducible refine grow_drew ?_) | (with_reducible refine grow_step ?_ (by assumption)) | (with_reducible refine grow_base ?_ (by assumption))))⟩
  have k1 : okIn root = true := by
    cases h : okIn root
    · exact absurd (Or.inl h) hk
    · rfl
  have k2 : okSecret x = true := by
    cases h : okSecret x
    · exact absurd (Or.inr h) hk
    · rfl
  clear hk
  by_cases hi : imgE n v c = 0
  rotate_left
  · have HI := Lib.hid hi
    obtain ⟨E, hE⟩ : ∃ E, imgE n v c = E := ⟨_, rfl⟩
    have HE := Lib.hid hE
    have HEI : Hid (I64 E) := Lib.hid (by rw [← hE]; exact imgE_bd _ _ _)
    have t : (E != 0) = true := by rw [← hE]; simp [hi]
    clear hE hi
    go_enter Tryz.func4, Tryz.ntmps4
    go_wp2_with (first | (go_at_call 20; refine (rIn_any _ _).mono ?_; rintro e w' ⟨rfl, rfl⟩; rw [k1]) | (go_at_call 21; refine (rSecret_any _ _).mono ?_; rintro e w' ⟨rfl, rfl⟩; rw [k2]))
    refine (rImage_any n v c _ (by omega) (by omega)).mono ?_
    rintro e w1 ⟨rfl, hb1⟩
    rw [HE.out]
    have hbw1 : Below w.heap.size w w1 := grow_step hb0 hb1
    have F1 := HF0.out.below hb1
    have cF := F1.cell
    have lF := F1.lt
    clear F1 hb1
    go_wp2_with fail
    refine (devNew_img root x n v c p a _ k1 k2 hn hc HI.out).mono ?_
    rintro e w2 ⟨rfl, hb2⟩
    rw [HE.out]
    have hbw2 : Below w.heap.size w w2 := grow_step hbw1 hb2
    clear cF lF hb2
    go_wp2_with fail
    refine (error_any E E _ (HG.out.below hbw2) HEI.out).mono ?_
    rintro e w3 ⟨rfl, hb3⟩
    rw [show (E == E) = true by simp]
    go_wp2_with fail
    go_ret
    exact ⟨rfl, (by repeat (first | (with_reducible exact grow_refl _) | (with_reducible assumption) | (with_reducible refine grow_alloc ?_ _) | (with_reducible refine grow_set ?_ (by first | exact Nat.le_refl _ | (simp; done) | (simp; omega) | omega) _) | (with_reducible refine grow_drewN ?_ _) | (with_reducible refine grow_drew ?_) | (with_reducible refine grow_step ?_ (by assumption)) | (with_reducible refine grow_base ?_ (by assumption))))⟩
  have HI := Lib.hid hi
  clear hi
  go_enter Tryz.func4, Tryz.ntmps4
  go_wp2_with (first | (go_at_call 20; refine (rIn_any _ _).mono ?_; rintro e w' ⟨rfl, rfl⟩; rw [k1]) | (go_at_call 21; refine (rSecret_any _ _).mono ?_; rintro e w' ⟨rfl, rfl⟩; rw [k2]))
  refine (rImage_any n v c _ (by omega) (by omega)).mono ?_
  rintro e w1 ⟨rfl, hb1⟩
  rw [HI.out]
  have hbw1 : Below w.heap.size w w1 := grow_step hb0 hb1
  have HF1 := Lib.hid (HF0.out.below hb1)
  have cF := HF1.out.cell
  have lF := HF1.out.lt
  clear hb1 HF0 hb0
  go_wp2_with fail
  refine (dNew_on root x n v c p a _ k1 k2 hn hc HI.out).mono ?_
  rintro e w2 ⟨gd, b, gs, rfl, hD2, hgs, hb2⟩
  have HD2 := Lib.hid hD2
  have HF2 := Lib.hid (HF1.out.below hb2)
  have hbw2 : Below w.heap.size w w2 := grow_step hbw1 hb2
  have hgw : w.heap.size ≤ gs := Nat.le_trans hbw1.size hgs
  clear hD2 hgs hb2 HF1 cF lF hbw1
  go_wp2_with fail
  refine (error_any 0 0 _ (HG.out.below hbw2) (i64_small (by decide) (by decide))).mono ?_
  rintro e w3 ⟨rfl, hb3⟩
  rw [show ((0 : Int) == 0) = true from rfl]
  have HD3 : Hid (∀ X, DevAt w3 gd gs b root x 0 (sd0 n v c p a) [] none X) := Lib.hid (fun X => (HD2.out X).below hb3)
  have HF3 := Lib.hid (HF2.out.below hb3)
  have hbw3 : Below w.heap.size w w3 := grow_step hbw2 hb3
  have cF := HF3.out.cell
  have lF := HF3.out.lt
  clear hb3 HD2 HF2 hbw2
  go_wp2_with fail
  refine (rslotNew n v c p a _).mono ?_
  rintro e w4 ⟨gr, rfl, hR4, hgr, hb4⟩
  have hPl : Ply w ((w4.alloc (.cells #[.slice none 0 0] 70)).alloc (.cells #[.string ⟨#[]⟩, .int .i64 0, .string ⟨#[]⟩] 23)) gd gs b gr w4.heap.size w4.heap.size (w4.heap.size + 1) root x 0 (sd0 n v c p a) [] none n.data.toList := by
    have hD4 := (HD3.out (XX gr w4.heap.size w4.heap.size (w4.heap.size + 1))).below hb4
    have g1 := (HD3.out (fun _ => False)).lt3
    have g2 := hR4.lt
    have hx := grow_alloc (grow_refl w4) (.cells #[.slice none 0 0] 70)
    have hy := grow_alloc hx (.cells #[.string ⟨#[]⟩, .int .i64 0, .string ⟨#[]⟩] 23)
    refine ⟨hD4.below hy, (hR4.alloc_ _).alloc_ _, (RC3.new w4 w4.heap.size).below (grow_alloc (grow_refl _) _), ?_, InvN.first hn hc iv ip ia HI.out, Or.inl rfl, (fun m h => by cases h), ⟨by omega, g2, by omega, by simp⟩, Or.inl rfl, hgw, grow_step (grow_step hbw3 hb4) hy⟩
    have h := Box.new (w4.alloc (.cells #[.slice none 0 0] 70)) 23 #[.string ⟨#[]⟩, .int .i64 0, .string ⟨#[]⟩]
    have e : (w4.alloc (.cells #[.slice none 0 0] 70)).heap.size = w4.heap.size + 1 := by simp
    rw [e] at h
    exact h
  have HP := Lib.hid hPl
  clear hPl cF lF HF3 hb4 hR4 HD3 hbw3 hgr
  go_wp2_with fail
  obtain ⟨gc, hgc⟩ : ∃ gc, gc = w4.heap.size := ⟨_, rfl⟩
  obtain ⟨gi, hgi⟩ : ∃ gi, gi = gc + 1 := ⟨_, rfl⟩
  rw [← hgc, ← hgi] at HP
  rw [← hgc, ← hgi]
  clear hgc hgi
  go_loopw [17, 22, 25, 27, 28, 29, 30, 31, 32, 33, 34, 35, 36, 37, 38, 39, 40, 41] (fun _ td on q i _ _ _ _ _ _ _ _ _ _ _ _ _ wr => ∃ (kk j nb lb : Nat) (s : Slts) (ls : List Cnt) (o : Option Im), kk ≤ l.length ∧ j ≤ ms.length ∧ nb ≤ kk ∧ td = .bool true ∧ on = .bool o.isSome ∧ q = .int .i64 j ∧ i = .int .i64 kk ∧ Hid (Ply w wr gd gs b gr gc lb gi root x nb s ls o n.data.toList)) (fun _ _ _ _ i _ _ _ _ _ _ _ _ _ _ _ _ _ _ => l.length - (intOf i).toNat)
  case atStart => exact ⟨0, 0, 0, _, _, _, none, by omega, by omega, by omega, rfl, rfl, rfl, rfl, HP⟩
  case round =>
    clear HP
    obtain ⟨kk, j, nb, lb, s, ls, o, hkk, hj, hnb, rfl, rfl, rfl, rfl, HP⟩ := hrel
    by_cases hlt : kk < l.length
    · have g0 : (kk : Int) < (l.length : Int) := by omega
      by_cases h50 : kk < 50
      · have g1 : (kk : Int) < 50 := by omega
        obtain ⟨y, hy⟩ : ∃ y, l.getD kk 0 = y := ⟨_, rfl⟩
        obtain ⟨bb, off, rfl, _, hcc⟩ := (HLI.out.below HP.out.bel) kk hlt
        rw [hy] at hcc
        clear hy
        go_upto_block 2 with fail
        clear hcc
        go_cut [17, 22, 25, 27, 29, 30, 31, 32, 33, 34, 35, 36, 37, 38] from 88 to 198 (fun _ td on q _ _ _ _ _ _ _ _ _ _ wx => ∃ (j nb lb : Nat) (s : Slts) (ls : List Cnt) (o : Option Im), j ≤ ms.length ∧ nb ≤ kk + 1 ∧ td = .bool true ∧ on = .bool o.isSome ∧ q = .int .i64 j ∧ Hid (Ply w wx gd gs b gr gc lb gi root x nb s ls o n.data.toList))
        case first =>
          obtain ⟨w1, hw1⟩ : ∃ w1, w1 = wr := ⟨_, rfl⟩
          subst hw1
          have l1 := HP.out.dev.lt1
          have l2 := HP.out.dev.lt2
          have l3 := HP.out.s1
          have l4 := HP.out.s2
          have l5 := HP.out.s3
          have HXX : Hid (∀ j, XX gr gc lb gi j → gd < j ∧ j < w1.heap.size) := Lib.hid (fun j h => by rcases h with h | h | h | h <;> omega)
          by_cases y0 : y = 0
          · subst y0
            by_cases hin : j < ms.length
            · have gq : (j : Int) < (ms.length : Int) := by omega
              obtain ⟨b1, off1, rfl, lb1, hcs⟩ := (HM.out.below HP.out.bel) j hin
              obtain ⟨z1, z2, z3, z4, z5⟩ := HMS.out j hin
              obtain ⟨⟨sn, sv, sc, sp, sa⟩, hz⟩ : ∃ z, ms.getD j noSgn = z := ⟨_, rfl⟩
              rw [hz] at hcs z1 z2 z3 z4 z5
              simp only [sgnCs] at hcs z1 z2 z3 z4 z5
              have e0 := hcs 0 (by decide)
              have e1 := hcs 1 (by decide)
              have e2 := hcs 2 (by decide)
              have e3 := hcs 3 (by decide)
              have e4 := hcs 4 (by decide)
              simp [-CellFam.cellOfFamily] at e0 e1 e2 e3 e4
              clear hz hcs
              obtain ⟨E, hE⟩ : ∃ E, doE root cs ls s (sn, sv, sc, sp, sa) = E := ⟨_, rfl⟩
              obtain ⟨s', hs'⟩ : ∃ s', doS root cs ls s (sn, sv, sc, sp, sa) = s' := ⟨_, rfl⟩
              have HEI : Hid (I64 E) := Lib.hid (by rw [← hE]; exact doE_bd _ _ _ _ _)
              have HIN : Hid (InvN n.data.toList s') := Lib.hid (by rw [← hs']; exact HP.out.inv.doS root cs ls z1 z2 z3 z4 z5)
              have HAS : Hid (∀ m : Im, o = some m → RunsAs s' m.1 m.2.1 m.2.2) := Lib.hid (fun m h => by rw [← hs']; exact (HP.out.asr m h).doS root cs ls (sn, sv, sc, sp, sa))
              have HC1 := Lib.hid (fun w h hA ht => dUpdate_any w gd gs b root x nb s ls o (XX gr gc lb gi) h HP.out.inv.inv A cc cs sn sv sc sp sa hA (by omega) z1 z2 ht (fun j h => (HXX.out j h).1))
              have HC2 := Lib.hid (fun w (hR : RC3 w gc lb ls) hA hB => rUpdDo_any root A cc cs ls sn sv sc sp sa gr gc w.heap.size s w hA (by omega) (RC2.of hR.cnt) HP.out.lsn.len hB HP.out.inv.inv z1 z2)
              rw [hE, hs'] at HC1 HC2
              have HLS := Lib.hid HP.out.lsn
              have hwz : w1.heap.size ≠ gs ∧ w1.heap.size ≠ gr := by omega
              have GB := grow_drew (grow_alloc (grow_refl w1) (.cells #[.string sn, .int .i64 sv, .string sc, .int .i64 sp, .int .i64 sa] 32))
              have GD := HP.out.dev.below GB
              have GR := HP.out.rs.below GB
              have GC := HP.out.rc.below GB
              have GI := HP.out.run.below GB
              have GW : Below w.heap.size w (w1.alloc (.cells #[.string sn, .int .i64 sv, .string sc, .int .i64 sp, .int .i64 sa] 32)).drew := grow_drew (grow_alloc HP.out.bel _)
              have GZ : Box (w1.alloc (.cells #[.string sn, .int .i64 sv, .string sc, .int .i64 sp, .int .i64 sa] 32)).drew w1.heap.size 32 #[.string sn, .int .i64 sv, .string sc, .int .i64 sp, .int .i64 sa] := (Box.new w1 32 #[.string sn, .int .i64 sv, .string sc, .int .i64 sp, .int .i64 sa]).drew_
              have GS : w1.heap.size ≤ (w1.alloc (.cells #[.string sn, .int .i64 sv, .string sc, .int .i64 sp, .int .i64 sa] 32)).drew.heap.size := GB.size
              clear hE hs' HP GB
              go_upto_region 28 with fail
              go_region_held3 (fun w' => (∀ i, w'.cell? ⟨w1.heap.size, i, none⟩ = (#[.string sn, .int .i64 sv, .string sc, .int .i64 sp, .int .i64 sa] : Array Value)[i]?))
                (first
                  | (with_reducible exact GZ.cell)
                  | (go_keep; done))
                (first
                  | (go_at_call 14; refine (HC1.out _ GD (HA.out.below GW) (HT.out.below GW)).mono ?_; rintro e w5 ⟨rfl, hDn, hkn⟩; have GZ := GZ.but hkn hwz.1; have GR := GR.but hkn (by intro h; omega); have GC := GC.but hkn (by intro h; omega) (by intro h; omega); have GI := GI.but hkn (by intro h; omega); have GW := GW.trans (hkn.below GW.size (by intro j h; omega)); have GS := Nat.le_trans GS hkn.size; have GD := hDn)
                  | (go_at_call 24; refine (HC2.out _ GC (HA.out.below GW) GR).mono ?_; rintro e w6 ⟨rfl, hRn, hkn⟩; have GZ := GZ.but hkn hwz.2; have GD := GD.but hkn (by intro j j1 j2 h; omega) (fun ev _ _ h h2 => h (Or.inl h2)); have GC := GC.but hkn (by intro h; omega) (by intro h; omega); have GI := GI.but hkn (by intro h; omega); have GW := GW.trans (hkn.below GW.size (by intro j h; omega)); have GS := Nat.le_trans GS hkn.size; have GR := hRn)
                  | (go_at_call 16; refine (error_any E E _ (HG.out.below GW) HEI.out).mono ?_; rintro e w7 ⟨rfl, hbn⟩; have GZ := GZ.below hbn; have GD := GD.below hbn; have GR := GR.below hbn; have GC := GC.below hbn; have GI := GI.below hbn; have GW := grow_step GW hbn; have GS := Nat.le_trans GS hbn.size))
              all_goals
                go_wp2_with fail
                go_meet
                exact ⟨(j + 1), nb, lb, s', ls, o, by omega, by omega, by simp, rfl, by go_num, Lib.hid ⟨GD, GR, GC, GI, HIN.out, HLS.out, HAS.out, ⟨l3.1, l3.2.1, l3.2.2.1, by omega⟩, by omega, l5, GW⟩⟩
            · have gq : ¬ (j : Int) < (ms.length : Int) := by omega
              have z1 : (⟨#[]⟩ : ByteArray).size ≤ 140737488351232 := by decide
              have z2 : (⟨#[]⟩ : ByteArray).size ≤ 140737488351232 := by decide
              have z3 : I64 0 := i64_small (by decide) (by decide)
              have z4 := z3
              have z5 := z3
              obtain ⟨E, hE⟩ : ∃ E, doE root cs ls s (⟨#[]⟩, 0, ⟨#[]⟩, 0, 0) = E := ⟨_, rfl⟩
              obtain ⟨s', hs'⟩ : ∃ s', doS root cs ls s (⟨#[]⟩, 0, ⟨#[]⟩, 0, 0) = s' := ⟨_, rfl⟩
              have HEI : Hid (I64 E) := Lib.hid (by rw [← hE]; exact doE_bd _ _ _ _ _)
              have HIN : Hid (InvN n.data.toList s') := Lib.hid (by rw [← hs']; exact HP.out.inv.doS root cs ls z1 z2 z3 z4 z5)
              have HAS : Hid (∀ m : Im, o = some m → RunsAs s' m.1 m.2.1 m.2.2) := Lib.hid (fun m h => by rw [← hs']; exact (HP.out.asr m h).doS root cs ls (⟨#[]⟩, 0, ⟨#[]⟩, 0, 0))
              have HC1 := Lib.hid (fun w h hA ht => dUpdate_any w gd gs b root x nb s ls o (XX gr gc lb gi) h HP.out.inv.inv A cc cs ⟨#[]⟩ 0 ⟨#[]⟩ 0 0 hA (by omega) z1 z2 ht (fun j h => (HXX.out j h).1))
              have HC2 := Lib.hid (fun w (hR : RC3 w gc lb ls) hA hB => rUpdDo_any root A cc cs ls ⟨#[]⟩ 0 ⟨#[]⟩ 0 0 gr gc w.heap.size s w hA (by omega) (RC2.of hR.cnt) HP.out.lsn.len hB HP.out.inv.inv z1 z2)
              rw [hE, hs'] at HC1 HC2
              have HLS := Lib.hid HP.out.lsn
              have hwz : w1.heap.size ≠ gs ∧ w1.heap.size ≠ gr := by omega
              have GB := grow_drew (grow_alloc (grow_refl w1) (.cells #[.string ⟨#[]⟩, .int .i64 0, .string ⟨#[]⟩, .int .i64 0, .int .i64 0] 32))
              have GD := HP.out.dev.below GB
              have GR := HP.out.rs.below GB
              have GC := HP.out.rc.below GB
              have GI := HP.out.run.below GB
              have GW : Below w.heap.size w (w1.alloc (.cells #[.string ⟨#[]⟩, .int .i64 0, .string ⟨#[]⟩, .int .i64 0, .int .i64 0] 32)).drew := grow_drew (grow_alloc HP.out.bel _)
              have GZ : Box (w1.alloc (.cells #[.string ⟨#[]⟩, .int .i64 0, .string ⟨#[]⟩, .int .i64 0, .int .i64 0] 32)).drew w1.heap.size 32 #[.string ⟨#[]⟩, .int .i64 0, .string ⟨#[]⟩, .int .i64 0, .int .i64 0] := (Box.new w1 32 #[.string ⟨#[]⟩, .int .i64 0, .string ⟨#[]⟩, .int .i64 0, .int .i64 0]).drew_
              have GS : w1.heap.size ≤ (w1.alloc (.cells #[.string ⟨#[]⟩, .int .i64 0, .string ⟨#[]⟩, .int .i64 0, .int .i64 0] 32)).drew.heap.size := GB.size
              clear hE hs' HP GB
              go_upto_region 28 with fail
              go_region_held3 (fun w' => (∀ i, w'.cell? ⟨w1.heap.size, i, none⟩ = (#[.string ⟨#[]⟩, .int .i64 0, .string ⟨#[]⟩, .int .i64 0, .int .i64 0] : Array Value)[i]?))
                (first
                  | (with_reducible exact GZ.cell)
                  | (go_keep; done))
                (first
                  | (go_at_call 14; refine (HC1.out _ GD (HA.out.below GW) (HT.out.below GW)).mono ?_; rintro e w5 ⟨rfl, hDn, hkn⟩; have GZ := GZ.but hkn hwz.1; have GR := GR.but hkn (by intro h; omega); have GC := GC.but hkn (by intro h; omega) (by intro h; omega); have GI := GI.but hkn (by intro h; omega); have GW := GW.trans (hkn.below GW.size (by intro j h; omega)); have GS := Nat.le_trans GS hkn.size; have GD := hDn)
                  | (go_at_call 24; refine (HC2.out _ GC (HA.out.below GW) GR).mono ?_; rintro e w6 ⟨rfl, hRn, hkn⟩; have GZ := GZ.but hkn hwz.2; have GD := GD.but hkn (by intro j j1 j2 h; omega) (fun ev _ _ h h2 => h (Or.inl h2)); have GC := GC.but hkn (by intro h; omega) (by intro h; omega); have GI := GI.but hkn (by intro h; omega); have GW := GW.trans (hkn.below GW.size (by intro j h; omega)); have GS := Nat.le_trans GS hkn.size; have GR := hRn)
                  | (go_at_call 16; refine (error_any E E _ (HG.out.below GW) HEI.out).mono ?_; rintro e w7 ⟨rfl, hbn⟩; have GZ := GZ.below hbn; have GD := GD.below hbn; have GR := GR.below hbn; have GC := GC.below hbn; have GI := GI.below hbn; have GW := grow_step GW hbn; have GS := Nat.le_trans GS hbn.size))
              all_goals
                go_wp2_with fail
                go_meet
                exact ⟨j, nb, lb, s', ls, o, by omega, by omega, by simp, rfl, by go_num, Lib.hid ⟨GD, GR, GC, GI, HIN.out, HLS.out, HAS.out, ⟨l3.1, l3.2.1, l3.2.2.1, by omega⟩, by omega, l5, GW⟩⟩
          · by_cases y1 : y = 1
            · subst y1
              rcases o with _ | ⟨rn, rv, rc⟩
              · go_wp2_with fail
                refine (dGood_off _ gd gs b root x nb s ls _ _ HP.out.dev rfl).mono ?_
                rintro e w8 ⟨rfl, hb8⟩
                have HP8 := Lib.hid (HP.out.below hb8)
                go_wp2_with fail
                refine (error_any 6 6 _ (HG.out.below HP8.out.bel) (i64_small (by decide) (by decide))).mono ?_
                rintro e w9 ⟨rfl, hb9⟩
                have HP9 := Lib.hid (HP8.out.below hb9)
                go_wp2_with fail
                go_meet
                exact ⟨j, nb, lb, s, ls, none, hj, by omega, rfl, rfl, rfl, HP9⟩
              · have hR := HP.out.asr _ rfl
                have hok : imgE rn rv rc = 0 ∧ rn.data.toList = n.data.toList := hR.ok HP.out.inv
                have hls := HP.out.lsn.raise hok.1 hok.2
                have hsz : rn.size ≤ 140737488351232 := by obtain ⟨_, _, _, h1, h2, h3, h4⟩ := imgE_ok hok.1; omega
                cases hgg : (s.at_ s.r).g
                · have e1 : goodE s = 0 := by unfold goodE; rw [hgg]; rfl
                  have e2 : dgE s ls rn rv = 0 := by unfold dgE; rw [hgg]; exact hls.1
                  have e3 : dgL s ls rn rv = raiseL ls rn rv := by unfold dgL; rw [hgg]; rfl
                  have HGD := Lib.hid (fun w h => rgoodC gr s w h)
                  rw [e1] at HGD
                  have HE2 := Lib.hid e2
                  have HE3 := Lib.hid e3
                  have cI := HP.out.run.cell
                  have lI := HP.out.run.lt
                  simp only [imO, imCells] at cI
                  clear e1 e2 e3 hgg hok hR
                  go_wp2_with fail
                  refine (HGD.out _ HP.out.rs).mono ?_
                  rintro e w5 ⟨rfl, hR5, hk5⟩
                  have hD5 := HP.out.dev.but hk5 (by intro j j1 j2 h; omega) (fun ev _ _ h h2 => h (Or.inl h2))
                  have hC5 := HP.out.rc.but hk5 (by intro h; omega) (by intro h; omega)
                  have hI5 := HP.out.run.but hk5 (by intro h; omega)
                  have hb5 := HP.out.bel.trans (hk5.below HP.out.bel.size (by intro j h; omega))
                  have hs5 := hk5.size
                  have HR5 := Lib.hid hR5
                  have HD5 := Lib.hid hD5
                  have HC5 := Lib.hid hC5
                  have HI5 := Lib.hid hI5
                  have cI := hI5.cell
                  have lI := hI5.lt
                  simp only [imO, imCells] at cI
                  clear hR5 hD5 hC5 hI5 hk5
                  go_wp2_with fail
                  clear cI lI
                  refine (rRaise3_any gc lb ls rn rv _ HC5.out (by omega) HP.out.lsn.len).mono ?_
                  rintro e w6 ⟨rfl, ⟨lb', hC6, hlb⟩, hk6⟩
                  have hD6 := ((HD5.out.mono (Y := fun q => XX gr gc lb gi q ∨ q = lb') (fun q q1 q2 q3 q4 => by
                    rcases q4 with h | h
                    · exact q3 h
                    · rcases hlb with h' | h'
                      · exact q3 (Or.inr (Or.inr (Or.inl (h.trans h'))))
                      · omega)).but hk6 (by intro j j1 j2 h; rcases h with h | h <;> omega) (fun ev _ _ h h2 => h (Or.inl (by
                    rcases h2 with h2 | h2
                    · exact Or.inr (Or.inl h2)
                    · exact Or.inr (Or.inr (Or.inl h2)))))).mono (Y := XX gr gc lb' gi) (fun q _ _ h h2 => h (by
                    rcases h2 with h2 | h2 | h2 | h2
                    · exact Or.inl (Or.inl h2)
                    · exact Or.inl (Or.inr (Or.inl h2))
                    · exact Or.inr h2
                    · exact Or.inl (Or.inr (Or.inr (Or.inr h2)))))
                  have HR6 := Lib.hid (HR5.out.but hk6 (by intro h; rcases h with h | h <;> omega))
                  have HI6 := Lib.hid (HI5.out.but hk6 (by intro h; rcases h with h | h <;> omega))
                  have hb6 := hb5.trans (hk6.below hb5.size (by intro j h; rcases h with h | h <;> omega))
                  have hs6 := hk6.size
                  have HD6 := Lib.hid hD6
                  have HC6 := Lib.hid hC6
                  have HS6 : Hid (lb' = gc ∨ (gi < lb' ∧ lb' < w6.heap.size)) := Lib.hid (by omega)
                  clear hD6 hC6 hk6 HD5 HR5 HC5 HI5
                  go_wp2_with fail
                  refine (dGood_on _ gd gs b root x nb s ls _ _ HD6.out rn rv rc rfl (by omega) HP.out.lsn.len hsz).mono ?_
                  rintro e w7 ⟨rfl, ⟨n', hn', hD7⟩, hk7⟩
                  rw [HE2.out]
                  rw [HE3.out] at hD7
                  have hs7 := hk7.size
                  have HP7 : Hid (Ply w w7 gd gs b gr gc lb' gi root x n' (goodS s) (raiseL ls rn rv) (some (rn, rv, rc)) n.data.toList) := Lib.hid
                    ⟨hD7, HR6.out.but hk7 (by intro h; rcases h with h | h <;> omega), HC6.out.but hk7 (by intro h; rcases h with h | h <;> omega) (by have := HS6.out; intro h; rcases h with h | h <;> omega), HI6.out.but hk7 (by intro h; rcases h with h | h <;> omega), HP.out.inv.goodS, hls.2, (fun m h => by cases h; exact (HP.out.asr _ rfl).goodS), ⟨l3.1, l3.2.1, l3.2.2.1, by omega⟩, by have := HS6.out; omega, l5, hb6.trans (hk7.below hb6.size (by intro j h; rcases h with h | h <;> omega))⟩
                  clear hD7 hk7 HD6 HR6 HC6 HI6 HS6 hs5 hs6 hs7 hb5 hb6
                  go_wp2_with fail
                  refine (error_any 0 0 _ (HG.out.below HP7.out.bel) (i64_small (by decide) (by decide))).mono ?_
                  rintro e w8 ⟨rfl, hb8⟩
                  have HP8 := Lib.hid (HP7.out.below hb8)
                  go_wp2_with fail
                  go_meet
                  exact ⟨j, n', lb', _, _, _, hj, by omega, rfl, rfl, rfl, HP8⟩
                · have e1 : goodE s = 7 := by unfold goodE; rw [hgg]; rfl
                  have e2 : dgE s ls rn rv = 7 := by unfold dgE; rw [hgg]; rfl
                  have e3 : dgL s ls rn rv = ls := by unfold dgL; rw [hgg]; rfl
                  have e4 : goodS s = s := by unfold goodS; rw [hgg]; rfl
                  have HGD := Lib.hid (fun w h => rgoodC gr s w h)
                  rw [e1, e4] at HGD
                  have HE2 := Lib.hid e2
                  have HE3 := Lib.hid e3
                  have HE4 := Lib.hid e4
                  clear e1 e2 e3 e4 hgg hok hR
                  go_wp2_with fail
                  refine (HGD.out _ HP.out.rs).mono ?_
                  rintro e w5 ⟨rfl, hR5, hk5⟩
                  have hD5 := HP.out.dev.but hk5 (by intro j j1 j2 h; omega) (fun ev _ _ h h2 => h (Or.inl h2))
                  have hs5 := hk5.size
                  have HP5 : Hid (Ply w w5 gd gs b gr gc lb gi root x nb s ls (some (rn, rv, rc)) n.data.toList) := Lib.hid
                    ⟨hD5, hR5, HP.out.rc.but hk5 (by intro h; omega) (by intro h; omega), HP.out.run.but hk5 (by intro h; omega), HP.out.inv, HP.out.lsn, HP.out.asr, ⟨l3.1, l3.2.1, l3.2.2.1, by omega⟩, by omega, l5, HP.out.bel.trans (hk5.below HP.out.bel.size (by intro j h; omega))⟩
                  clear hR5 hD5 hk5 HP
                  go_wp2_with fail
                  refine (dGood_on _ gd gs b root x nb s ls _ _ HP5.out.dev rn rv rc rfl (by omega) HP5.out.lsn.len hsz).mono ?_
                  rintro e w7 ⟨rfl, ⟨n', hn', hD7⟩, hk7⟩
                  rw [HE2.out]
                  rw [HE3.out, HE4.out] at hD7
                  have hs7 := hk7.size
                  have HP7 : Hid (Ply w w7 gd gs b gr gc lb gi root x n' s ls (some (rn, rv, rc)) n.data.toList) := Lib.hid
                    ⟨hD7, HP5.out.rs.but hk7 (by intro h; rcases h with h | h <;> omega), HP5.out.rc.but hk7 (by intro h; rcases h with h | h <;> omega) (by intro h; rcases h with h | h <;> omega), HP5.out.run.but hk7 (by intro h; rcases h with h | h <;> omega), HP5.out.inv, HP5.out.lsn, HP5.out.asr, ⟨l3.1, l3.2.1, l3.2.2.1, by omega⟩, by omega, l5, HP5.out.bel.trans (hk7.below HP5.out.bel.size (by intro j h; rcases h with h | h <;> omega))⟩
                  clear hD7 hk7 HP5 hs5 hs7
                  go_wp2_with fail
                  refine (error_any 7 7 _ (HG.out.below HP7.out.bel) (i64_small (by decide) (by decide))).mono ?_
                  rintro e w8 ⟨rfl, hb8⟩
                  have HP8 := Lib.hid (HP7.out.below hb8)
                  go_wp2_with fail
                  go_meet
                  exact ⟨j, n', lb, _, _, _, hj, by omega, rfl, rfl, rfl, HP8⟩
            · have yy0 : (y == 0) = false := by simp [y0]
              have yy1 : (y == 1) = false := by simp [y1]
              by_cases y2 : y = 2
              · subst y2
                have GB0 : Below w1.heap.size w1 ((w1.alloc (.cells #[.int .i64 0, .int .i64 0, .int .i64 0, .int .i64 0, .int .i64 0] 39)).alloc (.cells #[.int .i64 0, .int .i64 0, .int .i64 0, .int .i64 0, .int .i64 0, .int .i64 0, .int .i64 0, .int .i64 0] 44)) := grow_alloc (grow_alloc (grow_refl w1) _) _
                have HQ0 := Lib.hid ((Box.new w1 39 #[.int .i64 0, .int .i64 0, .int .i64 0, .int .i64 0, .int .i64 0]).alloc_ (.cells #[.int .i64 0, .int .i64 0, .int .i64 0, .int .i64 0, .int .i64 0, .int .i64 0, .int .i64 0, .int .i64 0] 44))
                have hB0 : Box ((w1.alloc (.cells #[.int .i64 0, .int .i64 0, .int .i64 0, .int .i64 0, .int .i64 0] 39)).alloc (.cells #[.int .i64 0, .int .i64 0, .int .i64 0, .int .i64 0, .int .i64 0, .int .i64 0, .int .i64 0, .int .i64 0] 44)) (w1.heap.size + 1) 44 #[.int .i64 0, .int .i64 0, .int .i64 0, .int .i64 0, .int .i64 0, .int .i64 0, .int .i64 0, .int .i64 0] := by
                  have h := Box.new (w1.alloc (.cells #[.int .i64 0, .int .i64 0, .int .i64 0, .int .i64 0, .int .i64 0] 39)) 44 #[.int .i64 0, .int .i64 0, .int .i64 0, .int .i64 0, .int .i64 0, .int .i64 0, .int .i64 0, .int .i64 0]
                  simpa using h
                have HB0 := Lib.hid hB0
                clear hB0
                rcases o with _ | ⟨rn, rv, rc⟩
                · go_wp2_with fail
                  refine (dTell_off _ gd gs b root x nb s ls _ _ (HP.out.below GB0).dev rfl k kk mk).mono ?_
                  rintro e w8 ⟨rfl, hb8⟩
                  have GB8 := grow_step GB0 hb8
                  have HQ8 := Lib.hid (HQ0.out.below hb8)
                  have hTE : EvsAt w8 none [] := EvsAt.nil_ _ _
                  have hRE : EvsAt w8 none [] := EvsAt.nil_ _ _
                  have HEI : Hid (I64 6) := Lib.hid (i64_small (by decide) (by decide))
                  clear HQ0 HB0 hb8
                  have HY8 := Lib.hid (Box.new w8 39 #[.int .i64 0, .int .i64 0, .int .i64 0, .int .i64 0, .int .i64 0])
                  have GB8a := grow_alloc GB8 (.cells #[.int .i64 0, .int .i64 0, .int .i64 0, .int .i64 0, .int .i64 0] 39)
                  have HQ8a := Lib.hid (HQ8.out.alloc_ (.cells #[.int .i64 0, .int .i64 0, .int .i64 0, .int .i64 0, .int .i64 0] 39))
                  have HTE := Lib.hid (hTE.below (grow_alloc (grow_refl _) (.cells #[.int .i64 0, .int .i64 0, .int .i64 0, .int .i64 0, .int .i64 0] 39)))
                  have HRE := Lib.hid (hRE.below (grow_alloc (grow_refl _) (.cells #[.int .i64 0, .int .i64 0, .int .i64 0, .int .i64 0, .int .i64 0] 39)))
                  clear hTE hRE HQ8 GB8
                  go_wp2_with fail
                  refine (error_any 6 6 _ (HG.out.below (HP.out.below GB8a).bel) HEI.out).mono ?_
                  rintro e w9 ⟨rfl, hb9⟩
                  rw [show ((6 : Int) == 6) = true by simp]
                  have HY9 := Lib.hid (HY8.out.below hb9)
                  have HQ9 := Lib.hid (HQ8a.out.below hb9)
                  have hTE := HTE.out.below hb9
                  have hRE := HRE.out.below hb9
                  have GB9 := grow_step GB8a hb9
                  have cY := HY9.out.cell
                  have lY := HY9.out.lt
                  have cQ := HQ9.out.cell
                  have lQ := HQ9.out.lt
                  have q1 := fun w => eqQt 0 0 0 0 0 w
                  have q2 := fun o p w => guardQt (.int .i64 0) (.int .i64 0) (.int .i64 0) (.int .i64 0) (.int .i64 0) (.int .i64 0) (.int .i64 0) (.int .i64 0) (.int .i64 0) (.int .i64 0) .eql o p w
                  clear hb9 HY8 HQ8a HTE HRE
                  go_wp2_with fail
                  clear cY cQ
                  refine (sameEvents_any none none 0 0 [] _ hTE hRE (by simp)).mono ?_
                  rintro e w10 ⟨rfl, hb10⟩
                  have GB10 := grow_step GB9 hb10
                  go_wp2_with fail
                  go_meet
                  exact ⟨j, nb, lb, s, ls, _, hj, by omega, rfl, rfl, rfl, Lib.hid (HP.out.below GB10)⟩
                · have hR := HP.out.asr _ rfl
                  have hok : imgE rn rv rc = 0 ∧ rn.data.toList = n.data.toList := hR.ok HP.out.inv
                  have HZ := Lib.hid (lineS_small hok.1)
                  obtain ⟨MM, hMM⟩ : ∃ MM, imgM rn rv rc = MM := ⟨_, rfl⟩
                  have HMM : Hid (textM (lineS rn rv rc).data.toList = MM) := Lib.hid hMM
                  have HMI := Lib.hid hMM
                  have hokM : okM MM = true := by rw [← hMM]; exact imgM_ok _ _ _
                  have hbk : evBank [(0, imgM rn rv rc)] = [pairM 0 MM, 0, 0, 0, 0, 0, 0, 0] := by rw [hMM]; rfl
                  have okk : okM (kk : Int) = true := okM_mk (by omega) (by omega)
                  obtain ⟨P, hP⟩ : ∃ P, pairM 0 MM = P := ⟨_, rfl⟩
                  have HPP := Lib.hid hP
                  have hPok : okM P = true := by rw [← hP]; exact pairM_ok _ _
                  rw [hP] at hbk
                  have HBK := Lib.hid hbk
                  have cI := (HP.out.below GB0).run.cell
                  have lI := (HP.out.below GB0).run.lt
                  simp only [imO, imCells] at cI
                  clear hR hok hMM hbk hP
                  go_wp2_with fail
                  clear cI lI
                  refine (rLine_any rn rv rc _ HZ.out.1 HZ.out.2.1 HZ.out.2.2.1 HZ.out.2.2.2.1).mono ?_
                  rintro e w2 ⟨rfl, hb2⟩
                  have GB2 := grow_step GB0 hb2
                  have HQ2 := Lib.hid (HQ0.out.below hb2)
                  have HB2 := Lib.hid (HB0.out.below hb2)
                  clear hb2 HQ0 HB0
                  go_wp2_with fail
                  refine (rText_any (lineS rn rv rc) _ HZ.out.2.2.2.2).mono ?_
                  rintro e w3 ⟨rfl, rfl⟩
                  rw [HMM.out]
                  have cB := HB2.out.cell
                  have lB := HB2.out.lt
                  have fB := HB2.out.frozen
                  go_wp2_with (go_at_call 30; refine (rTwo_any 0 MM _ (by decide) hokM).mono ?_; rintro e w' ⟨rfl, rfl⟩; rw [HPP.out])
                  clear cB
                  have HB3 := Lib.hid (show Box (w2.setCell ⟨w1.heap.size + 1, 0, none⟩ (.int .i64 P)) (w1.heap.size + 1) 44 #[.int .i64 P, .int .i64 0, .int .i64 0, .int .i64 0, .int .i64 0, .int .i64 0, .int .i64 0, .int .i64 0] from by
                    have h := HB2.out.set_ 0 (.int .i64 P)
                    simpa using h)
                  have kB : But (fun q => q = w1.heap.size + 1) w2 (w2.setCell ⟨w1.heap.size + 1, 0, none⟩ (.int .i64 P)) := (But.refl (fun q => q = w1.heap.size + 1) w2).setCell (p := ⟨w1.heap.size + 1, 0, none⟩) (Or.inl rfl) _
                  have HQ3 := Lib.hid (HQ2.out.but kB (by intro h; omega))
                  have GB3 : Below w1.heap.size w1 (w2.setCell ⟨w1.heap.size + 1, 0, none⟩ (.int .i64 P)) := GB2.trans (kB.below GB2.size (by intro j h; omega))
                  clear kB HQ2 HB2 lB fB GB2
                  obtain ⟨D, hD⟩ : ∃ D, digE [P, 0, 0, 0, 0, 0, 0, 0] mk = D := ⟨_, rfl⟩
                  have HD := Lib.hid hD
                  clear hD
                  refine (rDigested_any P 0 0 0 0 0 0 0 mk _).mono ?_
                  rintro e w4 ⟨rfl, hb4⟩
                  rw [HD.out]
                  have hs4 : w1.heap.size < w4.heap.size := Nat.lt_of_lt_of_le HQ3.out.lt hb4.size
                  have HB4 := Lib.hid (HB3.out.below hb4)
                  have HQ4 := Lib.hid (HQ3.out.below hb4)
                  have GB4 := grow_step GB3 hb4
                  clear hb4 HB3 HQ3
                  by_cases hD0 : D = 0
                  rotate_left
                  · have tD : (D == 0) = false := by simp [hD0]
                    have HMK : Hid (mkE x k kk mk (evBank [(0, imgM rn rv rc)]) = D) := Lib.hid (by rw [HBK.out]; unfold mkE; rw [if_pos okk, HD.out, if_neg hD0])
                    have HMV : Hid ((0, 0, 0, 0, 0) = mkV x k kk mk (evBank [(0, imgM rn rv rc)])) := Lib.hid (by unfold mkV; rw [HMK.out, if_neg hD0])
                    have HTL : Hid (tellEs D (imgM rn rv rc) = []) := Lib.hid (by unfold tellEs; rw [if_neg hD0])
                    have HEI : Hid (I64 D) := Lib.hid (by rw [← HD.out]; exact digE_bd _ _)
                    clear hD0
                    go_wp2_with fail
                    refine (dTell_on _ gd gs b root x nb s ls _ _ (HP.out.below GB4).dev rn rv rc rfl k kk mk (0, 0, 0, 0, 0) HMV.out D HMK.out).mono ?_
                    rintro e w8 ⟨TA, tc, rfl, hTE, hb8⟩
                    rw [HTL.out] at hTE
                    rw [HTL.out]
                    have GB8 := grow_step GB4 hb8
                    have HQ8 := Lib.hid (HQ4.out.below hb8)
                    have hRE : EvsAt w8 none [] := EvsAt.nil_ _ _
                    clear HQ4 HB4 hb8
                    have HY8 := Lib.hid (Box.new w8 39 #[.int .i64 0, .int .i64 0, .int .i64 0, .int .i64 0, .int .i64 0])
                    have GB8a := grow_alloc GB8 (.cells #[.int .i64 0, .int .i64 0, .int .i64 0, .int .i64 0, .int .i64 0] 39)
                    have HQ8a := Lib.hid (HQ8.out.alloc_ (.cells #[.int .i64 0, .int .i64 0, .int .i64 0, .int .i64 0, .int .i64 0] 39))
                    have HTE := Lib.hid (hTE.below (grow_alloc (grow_refl _) (.cells #[.int .i64 0, .int .i64 0, .int .i64 0, .int .i64 0, .int .i64 0] 39)))
                    have HRE := Lib.hid (hRE.below (grow_alloc (grow_refl _) (.cells #[.int .i64 0, .int .i64 0, .int .i64 0, .int .i64 0, .int .i64 0] 39)))
                    clear hTE hRE HQ8 GB8
                    go_wp2_with fail
                    refine (error_any D D _ (HG.out.below (HP.out.below GB8a).bel) HEI.out).mono ?_
                    rintro e w9 ⟨rfl, hb9⟩
                    rw [show ((D : Int) == D) = true by simp]
                    have HY9 := Lib.hid (HY8.out.below hb9)
                    have HQ9 := Lib.hid (HQ8a.out.below hb9)
                    have hTE := HTE.out.below hb9
                    have hRE := HRE.out.below hb9
                    have GB9 := grow_step GB8a hb9
                    have cY := HY9.out.cell
                    have lY := HY9.out.lt
                    have cQ := HQ9.out.cell
                    have lQ := HQ9.out.lt
                    have q1 := fun w => eqQt 0 0 0 0 0 w
                    have q2 := fun o p w => guardQt (.int .i64 0) (.int .i64 0) (.int .i64 0) (.int .i64 0) (.int .i64 0) (.int .i64 0) (.int .i64 0) (.int .i64 0) (.int .i64 0) (.int .i64 0) .eql o p w
                    clear hb9 HY8 HQ8a HTE HRE
                    go_wp2_with fail
                    clear cY cQ
                    refine (sameEvents_any TA none tc 0 [] _ hTE hRE (by simp)).mono ?_
                    rintro e w10 ⟨rfl, hb10⟩
                    have GB10 := grow_step GB9 hb10
                    go_wp2_with fail
                    go_meet
                    exact ⟨j, nb, lb, s, ls, _, hj, by omega, rfl, rfl, rfl, Lib.hid (HP.out.below GB10)⟩
                  subst hD0
                  have hmask : okMask mk = true := digE_mask HD.out
                  obtain ⟨E2, hE2⟩ : ∃ E2, sgE x k 0 = E2 := ⟨_, rfl⟩
                  have HE2 := Lib.hid hE2
                  have HSG : Hid (∀ r, okM r = true → sgE x k r = E2) := Lib.hid (fun r hr => by
                    rw [← hE2]; unfold sgE okSign; rw [hr]; rfl)
                  clear hE2
                  by_cases hE20 : E2 = 0
                  rotate_left
                  · have tD : (E2 == 0) = false := by simp [hE20]
                    have HMK : Hid (mkE x k kk mk (evBank [(0, imgM rn rv rc)]) = E2) := Lib.hid (by rw [HBK.out]; unfold mkE; rw [if_pos okk, HD.out, if_pos rfl]; exact HSG.out _ (rowM_ok _))
                    have HMV : Hid ((0, 0, 0, 0, 0) = mkV x k kk mk (evBank [(0, imgM rn rv rc)])) := Lib.hid (by unfold mkV; rw [HMK.out, if_neg hE20])
                    have HTL : Hid (tellEs E2 (imgM rn rv rc) = []) := Lib.hid (by unfold tellEs; rw [if_neg hE20])
                    have HEI : Hid (I64 E2) := Lib.hid (by rw [← HE2.out]; unfold sgE; split <;> exact i64_small (by decide) (by decide))
                    clear hE20
                    go_wp2_with (go_at_call 32; refine (rSigned_any x k 0 _).mono ?_; rintro e w' ⟨rfl, rfl⟩; rw [HE2.out])
                    refine (dTell_on _ gd gs b root x nb s ls _ _ (HP.out.below GB4).dev rn rv rc rfl k kk mk (0, 0, 0, 0, 0) HMV.out E2 HMK.out).mono ?_
                    rintro e w8 ⟨TA, tc, rfl, hTE, hb8⟩
                    rw [HTL.out] at hTE
                    rw [HTL.out]
                    have GB8 := grow_step GB4 hb8
                    have HQ8 := Lib.hid (HQ4.out.below hb8)
                    have hRE : EvsAt w8 none [] := EvsAt.nil_ _ _
                    clear HQ4 HB4 hb8
                    have HY8 := Lib.hid (Box.new w8 39 #[.int .i64 0, .int .i64 0, .int .i64 0, .int .i64 0, .int .i64 0])
                    have GB8a := grow_alloc GB8 (.cells #[.int .i64 0, .int .i64 0, .int .i64 0, .int .i64 0, .int .i64 0] 39)
                    have HQ8a := Lib.hid (HQ8.out.alloc_ (.cells #[.int .i64 0, .int .i64 0, .int .i64 0, .int .i64 0, .int .i64 0] 39))
                    have HTE := Lib.hid (hTE.below (grow_alloc (grow_refl _) (.cells #[.int .i64 0, .int .i64 0, .int .i64 0, .int .i64 0, .int .i64 0] 39)))
                    have HRE := Lib.hid (hRE.below (grow_alloc (grow_refl _) (.cells #[.int .i64 0, .int .i64 0, .int .i64 0, .int .i64 0, .int .i64 0] 39)))
                    clear hTE hRE HQ8 GB8
                    go_wp2_with fail
                    refine (error_any E2 E2 _ (HG.out.below (HP.out.below GB8a).bel) HEI.out).mono ?_
                    rintro e w9 ⟨rfl, hb9⟩
                    rw [show ((E2 : Int) == E2) = true by simp]
                    have HY9 := Lib.hid (HY8.out.below hb9)
                    have HQ9 := Lib.hid (HQ8a.out.below hb9)
                    have hTE := HTE.out.below hb9
                    have hRE := HRE.out.below hb9
                    have GB9 := grow_step GB8a hb9
                    have cY := HY9.out.cell
                    have lY := HY9.out.lt
                    have cQ := HQ9.out.cell
                    have lQ := HQ9.out.lt
                    have q1 := fun w => eqQt 0 0 0 0 0 w
                    have q2 := fun o p w => guardQt (.int .i64 0) (.int .i64 0) (.int .i64 0) (.int .i64 0) (.int .i64 0) (.int .i64 0) (.int .i64 0) (.int .i64 0) (.int .i64 0) (.int .i64 0) .eql o p w
                    clear hb9 HY8 HQ8a HTE HRE
                    go_wp2_with fail
                    clear cY cQ
                    refine (sameEvents_any TA none tc 0 [] _ hTE hRE (by simp)).mono ?_
                    rintro e w10 ⟨rfl, hb10⟩
                    have GB10 := grow_step GB9 hb10
                    go_wp2_with fail
                    go_meet
                    exact ⟨j, nb, lb, s, ls, _, hj, by omega, rfl, rfl, rfl, Lib.hid (HP.out.below GB10)⟩
                  subst hE20
                  obtain ⟨m1, m2⟩ := okMask_yes hmask
                  have hall : ([P, 0, 0, 0, 0, 0, 0, 0] : List Int).all okM = true := by simp [hPok]; decide
                  obtain ⟨H, hH⟩ : ∃ H, isM [P, 0, 0, 0, 0, 0, 0, 0] mk = H := ⟨_, rfl⟩
                  have HH := Lib.hid hH
                  have hHok : okM H = true := by rw [← hH]; unfold isM; exact rowM_ok _
                  obtain ⟨R, hRR⟩ : ∃ R, rowM [(kk : Int), mk, H] = R := ⟨_, rfl⟩
                  have HRR := Lib.hid hRR
                  have hRok : okM R = true := by rw [← hRR]; exact rowM_ok _
                  have hmkok : okM mk = true := okM_mk (by omega) (by omega)
                  have hrow : ([(kk : Int), mk, H] : List Int).all okM = true := by simp [okk, hmkok, hHok]
                  have hsx : okSecret x = true ∧ okSecret k = true := by
                    have h := HE2.out
                    unfold sgE at h
                    cases ho : okSign x k 0
                    · rw [ho] at h; exact absurd h (by decide)
                    · unfold okSign at ho
                      simp only [Bool.and_eq_true] at ho
                      exact ⟨ho.1.1, ho.1.2⟩
                  obtain ⟨S1, hS1⟩ : ∃ S, pwI 64 k = S := ⟨_, rfl⟩
                  obtain ⟨S2, hS2⟩ : ∃ S, sealA x k R = S := ⟨_, rfl⟩
                  have HS1 := Lib.hid hS1
                  have HS2 := Lib.hid hS2
                  have HMK : Hid (mkE x k kk mk (evBank [(0, imgM rn rv rc)]) = 0) := Lib.hid (by rw [HBK.out]; unfold mkE; rw [if_pos okk, HD.out, if_pos rfl]; exact HSG.out _ (rowM_ok _))
                  have HMV : Hid (((kk : Int), mk, H, S1, S2) = mkV x k kk mk (evBank [(0, imgM rn rv rc)])) := Lib.hid (by
                    have h := (make_okD HMK.out)
                    rw [h, HBK.out, hH, hRR]
                    unfold sgP sgA okSign
                    rw [hsx.1, hsx.2, hRok, hS1, hS2]
                    rfl)
                  have HTL : Hid (tellEs 0 (imgM rn rv rc) = [(0, MM)]) := Lib.hid (by unfold tellEs; rw [if_pos rfl, HMI.out])
                  have HEI : Hid (I64 0) := Lib.hid (i64_small (by decide) (by decide))
                  have HHA := Lib.hid hall
                  have HHR := Lib.hid hrow
                  have cB := HB4.out.cell
                  have lB := HB4.out.lt
                  clear hH hRR hS1 hS2 hall hrow
                  go_wp2_with (go_at_call 32; refine (rSigned_any x k 0 _).mono ?_; rintro e w' ⟨rfl, rfl⟩; rw [HE2.out])
                  clear cB lB
                  have hREv : EvsAt (w4.alloc (.cells #[.int .i64 0, .int .i64 MM] 82)) (some ⟨w4.heap.size, 0, none⟩) [(0, MM)] := EvsAt.of_cells (CellsAt.new_ w4 82 (evCells [(0, MM)]) (0, 0))
                  have HRE4 := Lib.hid hREv
                  have HQ4a := Lib.hid (HQ4.out.alloc_ (.cells #[.int .i64 0, .int .i64 MM] 82))
                  have GB4a := grow_alloc GB4 (.cells #[.int .i64 0, .int .i64 MM] 82)
                  clear hREv HQ4 HB4 GB4
                  refine (rDigest_any P 0 0 0 0 0 0 0 mk _ m1 m2 HHA.out).mono ?_
                  rintro e w5 ⟨rfl, hb5⟩
                  rw [HH.out]
                  have HRE5 := Lib.hid (HRE4.out.below hb5)
                  have HQ5 := Lib.hid (HQ4a.out.below hb5)
                  have GB5 := grow_step GB4a hb5
                  clear hb5 HRE4 HQ4a GB4a
                  go_wp2_with fail
                  refine (rAll_any (some ⟨w5.heap.size, 0, none⟩) 3 [(kk : Int), mk, H] _ (IntsAt.new_ w5 3 [(kk : Int), mk, H] (0, 0)) HHR.out (by simp)).mono ?_
                  rintro e w6 ⟨rfl, rfl⟩
                  rw [HRR.out]
                  have HRE5a := Lib.hid (HRE5.out.below (grow_alloc (grow_refl _) (.cells #[.int .i64 kk, .int .i64 mk, .int .i64 H] 3)))
                  have HQ5a := Lib.hid (HQ5.out.alloc_ (.cells #[.int .i64 kk, .int .i64 mk, .int .i64 H] 3))
                  have GB5a := grow_alloc GB5 (.cells #[.int .i64 kk, .int .i64 mk, .int .i64 H] 3)
                  clear HRE5 HQ5 GB5
                  go_wp2_with fail
                  refine (rSign_any x k R _ hsx.1 hsx.2 hRok).mono ?_
                  rintro e w7 ⟨rfl, hb7⟩
                  rw [HS1.out, HS2.out]
                  have HRE7 := Lib.hid (HRE5a.out.below hb7)
                  have HQ7 := Lib.hid (HQ5a.out.below hb7)
                  have GB7 := grow_step GB5a hb7
                  have cQ := HQ7.out.cell
                  have lQ := HQ7.out.lt
                  have fQ := HQ7.out.frozen
                  clear hb7 HRE5a HQ5a GB5a
                  have k7 := But.five w7 w1.heap.size (.int .i64 kk) (.int .i64 mk) (.int .i64 H) (.int .i64 S1) (.int .i64 S2)
                  have HQ9_ := Lib.hid (HQ7.out.fill5 (.int .i64 kk) (.int .i64 mk) (.int .i64 H) (.int .i64 S1) (.int .i64 S2))
                  have GB9_ := GB7.trans (k7.below GB7.size (by intro j h; omega))
                  have HRE9 := Lib.hid (HRE7.out.but' k7 (fun a ha _ h => by injection ha with ha; rw [← ha] at h; have : w4.heap.size = w1.heap.size := h; have := hs4; omega))
                  clear k7
                  go_wp2_with fail
                  clear cQ lQ fQ
                  refine (dTell_on _ gd gs b root x nb s ls _ _ (HP.out.below GB9_).dev rn rv rc rfl k kk mk ((kk : Int), mk, H, S1, S2) HMV.out 0 HMK.out).mono ?_
                  rintro e w8 ⟨TA, tc, rfl, hTE, hb8⟩
                  rw [HTL.out] at hTE
                  rw [HTL.out]
                  have GB8 := grow_step GB9_ hb8
                  have HQ8 := Lib.hid (HQ9_.out.below hb8)
                  have hRE := HRE9.out.below hb8
                  clear HQ9_ GB9_ HRE9 HRE7 HQ7 GB7 hb8
                  have HY8 := Lib.hid (Box.new w8 39 #[.int .i64 kk, .int .i64 mk, .int .i64 H, .int .i64 S1, .int .i64 S2])
                  have GB8a := grow_alloc GB8 (.cells #[.int .i64 kk, .int .i64 mk, .int .i64 H, .int .i64 S1, .int .i64 S2] 39)
                  have HQ8a := Lib.hid (HQ8.out.alloc_ (.cells #[.int .i64 kk, .int .i64 mk, .int .i64 H, .int .i64 S1, .int .i64 S2] 39))
                  have HTE := Lib.hid (hTE.below (grow_alloc (grow_refl _) (.cells #[.int .i64 kk, .int .i64 mk, .int .i64 H, .int .i64 S1, .int .i64 S2] 39)))
                  have HRE := Lib.hid (hRE.below (grow_alloc (grow_refl _) (.cells #[.int .i64 kk, .int .i64 mk, .int .i64 H, .int .i64 S1, .int .i64 S2] 39)))
                  clear hTE hRE HQ8 GB8
                  go_wp2_with fail
                  refine (error_any 0 0 _ (HG.out.below (HP.out.below GB8a).bel) HEI.out).mono ?_
                  rintro e w9 ⟨rfl, hb9⟩
                  rw [show ((0 : Int) == 0) = true by simp]
                  have HY9 := Lib.hid (HY8.out.below hb9)
                  have HQ9 := Lib.hid (HQ8a.out.below hb9)
                  have hTE := HTE.out.below hb9
                  have hRE := HRE.out.below hb9
                  have GB9 := grow_step GB8a hb9
                  have cY := HY9.out.cell
                  have lY := HY9.out.lt
                  have cQ := HQ9.out.cell
                  have lQ := HQ9.out.lt
                  have q1 := fun w => eqQt kk mk H S1 S2 w
                  have q2 := fun o p w => guardQt (.int .i64 kk) (.int .i64 mk) (.int .i64 H) (.int .i64 S1) (.int .i64 S2) (.int .i64 kk) (.int .i64 mk) (.int .i64 H) (.int .i64 S1) (.int .i64 S2) .eql o p w
                  clear hb9 HY8 HQ8a HTE HRE
                  go_wp2_with fail
                  clear cY cQ
                  refine (sameEvents_any TA (some ⟨w4.heap.size, 0, none⟩) tc 1 [(0, MM)] _ hTE hRE (by simp)).mono ?_
                  rintro e w10 ⟨rfl, hb10⟩
                  have GB10 := grow_step GB9 hb10
                  go_wp2_with fail
                  go_meet
                  exact ⟨j, nb, lb, s, ls, _, hj, by omega, rfl, rfl, rfl, Lib.hid (HP.out.below GB10)⟩
              · have yy2 : (y == 2) = false := by simp [y2]
                clear y0 y1 y2
                obtain ⟨P, hP⟩ : ∃ P, s.pick = P := ⟨_, rfl⟩
                obtain ⟨S, hS⟩ : ∃ S, s.safe = S := ⟨_, rfl⟩
                have HC1 := Lib.hid (fun w hB => rpick_at gr s P w hB hP)
                have HC2 := Lib.hid (fun w hB => rsafe_at gr s S w hB hS)
                have HC3 := Lib.hid (fun w hB => rstartC gr s w hB HP.out.inv.inv)
                have HC4 := Lib.hid (fun w_ h hb hX => dStart_any w_ gd gs b root x nb s ls o (XX gr gc lb gi) h HP.out.inv.inv w hb l5 HP.out.inv.pick.1 HT.out hX)
                have hrun := RunsAs.startS HP.out.inv.inv
                rw [hP] at HC3 HC4 hrun
                rw [hS] at HC4
                obtain ⟨⟨pn, pv, pc, pp, pa, pf, pt, pg⟩, hz⟩ : ∃ z, s.at_ P = z := ⟨_, rfl⟩
                rw [hz] at HC3 HC4 hrun
                simp only [Slt.im] at HC3
                simp only at HC4 hrun
                obtain ⟨s', hs'⟩ : ∃ s', startS s = s' := ⟨_, rfl⟩
                rw [hs'] at HC3 HC4 hrun
                have HIN : Hid (InvN n.data.toList s') := Lib.hid (by rw [← hs']; exact HP.out.inv.startS)
                have HRN := Lib.hid hrun
                have qf := fun w => fieldSg pn pv pc pp pa w
                clear hz hs' hP hS hrun
                go_wp2_with fail
                refine (HC1.out _ HP.out.rs).mono ?_
                rintro e w2 ⟨rfl, hb2⟩
                have HP2 := Lib.hid (HP.out.below hb2)
                have hs2 := hb2.size
                clear hb2
                go_wp2_with fail
                refine (HC2.out _ HP2.out.rs).mono ?_
                rintro e w3 ⟨rfl, hb3⟩
                have HP3 := Lib.hid (HP2.out.below hb3)
                have hs3 := hb3.size
                clear hb3 HP2
                go_wp2_with fail
                refine (HC3.out _ HP3.out.rs).mono ?_
                rintro e w5 ⟨rfl, hR5, hk5⟩
                have hs5 := hk5.size
                have HD5 := Lib.hid (HP3.out.dev.but hk5 (by intro j j1 j2 h; omega) (fun ev _ _ h h2 => h (Or.inl h2)))
                have HC5 := Lib.hid (HP3.out.rc.but hk5 (by intro h; omega) (by intro h; omega))
                have HI5 := Lib.hid (HP3.out.run.but hk5 (by intro h; omega))
                have HR5 := Lib.hid hR5
                have hb5 := HP3.out.bel.trans (hk5.below HP3.out.bel.size (by intro j h; have := HP.out.bel.size; omega))
                have cI := HI5.out.cell
                have lI := HI5.out.lt
                have fI := HI5.out.frozen
                simp only [imCells] at cI
                have k6 : But (fun q => q = gi) w5 (((w5.setCell ⟨gi, 0, none⟩ (.string pn)).setCell ⟨gi, 1, none⟩ (.int .i64 pv)).setCell ⟨gi, 2, none⟩ (.string pc)) := (((But.refl (fun q => q = gi) w5).setCell (p := ⟨gi, 0, none⟩) (Or.inl rfl) _).setCell (p := ⟨gi, 1, none⟩) (Or.inl rfl) _).setCell (p := ⟨gi, 2, none⟩) (Or.inl rfl) _
                have HD6 := Lib.hid (HD5.out.but k6 (by intro j j1 j2 h; omega) (fun ev _ _ h h2 => h (Or.inr (Or.inr (Or.inr h2)))))
                have HC6 := Lib.hid (HC5.out.but k6 (by intro h; omega) (by intro h; omega))
                have HR6 := Lib.hid (HR5.out.but k6 (by intro h; omega))
                have hI6 : Box (((w5.setCell ⟨gi, 0, none⟩ (.string pn)).setCell ⟨gi, 1, none⟩ (.int .i64 pv)).setCell ⟨gi, 2, none⟩ (.string pc)) gi 23 (imCells (imO (some (pn, pv, pc)))) := by
                  have h := ((HI5.out.set_ 0 (.string pn)).set_ 1 (.int .i64 pv)).set_ 2 (.string pc)
                  simpa [imCells, imO] using h
                have HI6 := Lib.hid hI6
                have hb6 := hb5.trans (k6.below hb5.size (by intro j h; have := HP.out.bel.size; omega))
                have hs6 := k6.size
                clear hI6 k6 hR5 hk5 HD5 HC5 HI5 HR5 hb5 HP3
                go_wp2_with fail
                clear cI lI fI
                refine (HC4.out _ HD6.out hb6 (fun q hq => by have := (HXX.out q hq).2; omega)).mono ?_
                rintro e w7 ⟨rfl, hD7, hk7⟩
                have hs7 := hk7.size
                have HP7 : Hid (Ply w w7 gd gs b gr gc lb gi root x nb s' ls (some (pn, pv, pc)) n.data.toList) := Lib.hid
                  ⟨hD7, HR6.out.but hk7 (by intro h; rcases h with h | h <;> omega), HC6.out.but hk7 (by intro h; rcases h with h | h <;> omega) (by intro h; rcases h with h | h <;> omega), HI6.out.but hk7 (by intro h; rcases h with h | h <;> omega), HIN.out, HP.out.lsn, (fun m h => by cases h; exact HRN.out), ⟨l3.1, l3.2.1, l3.2.2.1, by omega⟩, by omega, l5, hb6.trans (hk7.below hb6.size (by intro j h; have := HP.out.bel.size; rcases h with h | h <;> omega))⟩
                clear hD7 hk7 HD6 HC6 HR6 HI6
                go_wp2_with fail
                go_meet
                exact ⟨j, nb, lb, s', ls, _, hj, by omega, by simp [bne], rfl, rfl, HP7⟩
        case rest =>
          clear HP hj hnb
          obtain ⟨j, nb, lb, s, ls, o, hj, hnb, rfl, rfl, rfl, HP⟩ := hcut
          rcases o with _ | ⟨rn, rv, rc⟩
          · have q1 := fun w => eqIm ⟨#[]⟩ 0 ⟨#[]⟩ (by decide) (by decide) (i64_small (by decide) (by decide)) w
            have q2 := fun o p w => guardIm (.string ⟨#[]⟩) (.int .i64 0) (.string ⟨#[]⟩) (.string ⟨#[]⟩) (.int .i64 0) (.string ⟨#[]⟩) .eql o p w
            go_wp2_with fail
            refine (dRuns_off _ gd gs b root x nb s ls _ _ HP.out.dev rfl).mono ?_
            rintro e w8 ⟨rfl, hb8⟩
            have HP8 := Lib.hid ((HP.out.below hb8).below (grow_alloc (grow_refl _) (.cells #[.string ⟨#[]⟩, .int .i64 0, .string ⟨#[]⟩] 23)))
            have HI8 := Lib.hid (Box.new w8 23 #[.string ⟨#[]⟩, .int .i64 0, .string ⟨#[]⟩])
            clear HP hb8
            go_wp2_with fail
            refine (error_any 6 6 _ (HG.out.below HP8.out.bel) (i64_small (by decide) (by decide))).mono ?_
            rintro e w9 ⟨rfl, hb9⟩
            have HP9 := Lib.hid (HP8.out.below hb9)
            have HI9 := Lib.hid (HI8.out.below hb9)
            have cI := HP9.out.run.cell
            have lI := HP9.out.run.lt
            have cJ := HI9.out.cell
            have lJ := HI9.out.lt
            simp only [imO, imCells] at cI
            clear hb9 HP8 HI8
            go_wp2_with fail
            go_roundw
            case rel => exact ⟨kk + 1, j, nb, lb, s, ls, none, by omega, hj, hnb, rfl, rfl, rfl, by go_num, HP9⟩
            case measure => simp [intOf]; omega
          · have hR := HP.out.asr _ rfl
            have hok : imgE rn rv rc = 0 ∧ rn.data.toList = n.data.toList := hR.ok HP.out.inv
            obtain ⟨_, _, _, h1, h2, h3, h4⟩ := imgE_ok hok.1
            have q1 := fun w => eqIm rn rv rc (by omega) (by omega) ⟨by omega, by omega⟩ w
            have q2 := fun o p w => guardIm (.string rn) (.int .i64 rv) (.string rc) (.string rn) (.int .i64 rv) (.string rc) .eql o p w
            clear hR hok h1 h2 h3 h4
            go_wp2_with fail
            refine (dRuns_on _ gd gs b root x nb s ls _ _ HP.out.dev rn rv rc rfl).mono ?_
            rintro e w8 ⟨rfl, hb8⟩
            have HP8 := Lib.hid ((HP.out.below hb8).below (grow_alloc (grow_refl _) (.cells #[.string rn, .int .i64 rv, .string rc] 23)))
            have HI8 := Lib.hid (Box.new w8 23 #[.string rn, .int .i64 rv, .string rc])
            clear HP hb8
            go_wp2_with fail
            refine (error_any 0 0 _ (HG.out.below HP8.out.bel) (i64_small (by decide) (by decide))).mono ?_
            rintro e w9 ⟨rfl, hb9⟩
            have HP9 := Lib.hid (HP8.out.below hb9)
            have HI9 := Lib.hid (HI8.out.below hb9)
            have cI := HP9.out.run.cell
            have lI := HP9.out.run.lt
            have cJ := HI9.out.cell
            have lJ := HI9.out.lt
            simp only [imO, imCells] at cI
            clear hb9 HP8 HI8
            go_wp2_with fail
            go_roundw
            case rel => exact ⟨kk + 1, j, nb, lb, s, ls, _, by omega, hj, hnb, rfl, rfl, rfl, by go_num, HP9⟩
            case measure => simp [intOf]; omega
      · go_wp2_with fail
        go_ret
        exact ⟨rfl, HP.out.bel⟩
    · go_wp2_with fail
      go_ret
      exact ⟨rfl, HP.out.bel⟩

set_option maxRecDepth 100000 in
theorem devicePlays_walks (H : Type) (enc : TypeId × Value → H) : WalksD enc Tryz.prog TabTD 4 Tryz.f4 := by
  intro W base args ds p hval hA hlt hsz hsh hdoor
  have hsz0 := hsz
  rw [Tryz.params4] at hA hval
  obtain ⟨v0, vs0, d0, ds0, p0, q0, hargs, rfl, rfl, h0, r0⟩ := trodAll_cons hA
  obtain ⟨v1, vs1, d1, ds1, p1, q1, rfl, rfl, rfl, h1, r1⟩ := trodAll_cons r0
  obtain ⟨v2, vs2, d2, ds2, p2, q2, rfl, rfl, rfl, h2, r2⟩ := trodAll_cons r1
  obtain ⟨v3, vs3, d3, ds3, p3, q3, rfl, rfl, rfl, h3, r3⟩ := trodAll_cons r2
  obtain ⟨v4, vs4, d4, ds4, p4, q4, rfl, rfl, rfl, h4, r4⟩ := trodAll_cons r3
  obtain ⟨v5, vs5, d5, ds5, p5, q5, rfl, rfl, rfl, h5, r5⟩ := trodAll_cons r4
  obtain ⟨v6, vs6, d6, ds6, p6, q6, rfl, rfl, rfl, h6, r6⟩ := trodAll_cons r5
  obtain ⟨v7, vs7, d7, ds7, p7, q7, rfl, rfl, rfl, h7, r7⟩ := trodAll_cons r6
  obtain ⟨rfl, rfl, rfl⟩ := trodAll_nil r7
  obtain rfl : args = #[v0, v1, v2, v3, v4, v5, v6, v7] := by cases args; simp_all
  obtain ⟨a0, rfl, w0⟩ := op_int (hval 0 3 v0 rfl rfl) h0
  obtain ⟨a1, rfl, w1⟩ := op_int (hval 1 3 v1 rfl rfl) h1
  obtain ⟨a2, b2, c2, p2_, q2_, rfl, w2, u2, z2, y2, t2⟩ := op_signed (hval 2 32 v2 rfl rfl) h2 (w_each hsz 2 32 _ (by rw [Tryz.params4]; rfl) rfl)
  obtain ⟨A3, a3, c3, rfl, w3, i3, z3⟩ := op_ints (hval 3 60 v3 rfl rfl) h3 (fun x hx => hlt x (by simp [hx])) (w_each hsz 3 60 _ (by rw [Tryz.params4]; rfl) rfl)
  obtain ⟨A4, a4, c4, rfl, w4, z4, y4⟩ := op_certs (hval 4 61 v4 rfl rfl) h4 (fun x hx => hlt x (by simp [hx])) (w_each hsz 4 61 _ (by rw [Tryz.params4]; rfl) rfl)
  obtain ⟨A5, a5, c5, rfl, w5, z5, y5, g5⟩ := op_signeds (hval 5 62 v5 rfl rfl) h5 (fun x hx => hlt x (by simp [hx])) (w_each hsz 5 62 _ (by rw [Tryz.params4]; rfl) rfl)
  obtain ⟨a6, rfl, w6⟩ := op_int (hval 6 3 v6 rfl rfl) h6
  obtain ⟨a7, rfl, w7⟩ := op_int (hval 7 3 v7 rfl rfl) h7
  exact devicePlays_walk W a0 a1 a2 b2 c2 p2_ q2_ A3 a3 c3 A4 a4 c4 A5 a5 c5 a6 a7 w0 w1 w2 u2 z2 y2 t2 w3 i3 z3 w4 z4 y4 w5 z5 y5 g5 w6 w7 hdoor

set_option maxRecDepth 100000 in
theorem devicePlays_lifted (os : Os) (started : os.Started) (H : Type) (enc : TypeId × Value → H) :
    ReturnsInHanded {} Tryz.checked os 4 .any (fun w args => (Rows.devicePlaysSpec.pre enc Tryz.checked.prog Tryz.f4 [] false w args ∧ laidMetH Tryz.checked.prog LaidTD w) ∧ sizedMet enc Tryz.checked.prog Tryz.f4 (OpenSpec.ofChange Rows.devicePlaysSpec) false w args) (Rows.devicePlaysSpec.post enc Tryz.checked.prog Tryz.f4 false true false false) :=
  returns_of_walkD (C := Tryz.checked) (s := Rows.devicePlaysSpec) (L := LaidTD) (D := TabTD) own started (by kernel_rfl) Tryz.func4
    (ChangeSpec.witness_at (enc := enc) (C := Tryz.checked) (os := os) (X := fun w _ => laidMetH Tryz.prog LaidTD w) false (laidWorldTD os) #[.int .i64 0, .int .i64 0, .agg #[.string ⟨#[]⟩, .int .i64 0, .string ⟨#[]⟩, .int .i64 0, .int .i64 0], .slice none 0 0, .slice none 0 0, .slice none 0 0, .int .i64 0, .int .i64 0] 8 rfl (by kernel_rfl) (by kernel_rfl) (by kernel_rfl) (by kernel_rfl) (by kernel_rfl) (laidWorldTD_met os _))
    (fun W h => tabTD_of_laid h) laidOut (by kernel_rfl) rfl Tryz.underlying4 rfl (fun ds h => by match ds, h with | [_, _, _, _, _, _, _, _], _ => rfl) (devicePlays_walks H enc)

theorem devicePlays_bare : Rows.DevicePlaysSaid :=
  OpenClaim.holds_of_wide 4 Tryz.f4 rfl rfl rfl rfl rfl rfl rfl ⟨rfl, rfl, rfl, rfl, rfl⟩ rfl rfl rfl rfl rfl (by kernel_rfl) Tryz.func4 (by kernel_rfl)
    (of_decide_eq_true (by kernel_rfl)) (by unfold Func.isWrapper; rw [if_neg (of_decide_eq_false (by kernel_rfl))]; exact ⟨rfl, rfl⟩)
    (fun os started H enc _ => devicePlays_lifted os started H enc)

theorem devicePlays_holds : Rows.DevicePlaysCardSaid :=
  Claim7.holds_tied_plain_at .later [] [.data, .data, .data, .handle] true Rows.devicePlaysCard.stood.harness true
    devicePlays_bare (fun _ h => by cases h) (by kernel_rfl) (fun _ h => by cases h) devicePlays_row_tie rfl ⟨rfl, rfl⟩ (by kernel_rfl) rfl
    (fun f fn hf hfn => by
      obtain rfl : f = 4 := Option.some.inj ((show Tryz.prog.funcNamed "bootstair/stairlaw2.DevicePlays" = some 4 by kernel_rfl).symm.trans hf) |>.symm
      obtain rfl : fn = Tryz.f4 := (Option.some.inj (Tryz.func4.symm.trans hfn)).symm
      exact ⟨by kernel_rfl, fun j t ht => by
        have hm : t ∈ Tryz.f4.params.toList := by simpa using Array.mem_of_getElem? ht
        have hall : (Tryz.f4.params.toList.all fun u => !Tryz.prog.wantsStandIn u) = true := by kernel_rfl
        exact (show Tryz.prog.wantsStandIn t = false by simpa using List.all_eq_true.1 hall t hm)⟩)
    (by kernel_rfl)

end Go.Proofs.YtdedllfgeekogaaGreatDoor
