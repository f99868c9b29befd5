/- run: what is said; a seal. -/
import Derived.Test.YtegiffdlfpdbkaaGreatDoorRows
import Derived.Test.YtegiffdlfpdbkaaGreatDoorNum
import Derived.Test.YtegiffdlfpdbkaaGreatDoorBase
import Derived.Test.YtegiffdlfpdbkaaGreatDoorApp
import Derived.Test.YtegiffdlfpdbkaaGreatDoorFoot
import Derived.Test.YtegiffdlfpdbkaaGreatDoorMeas
import Derived.Test.YtegiffdlfpdbkaaGreatDoorKey
import Derived.Test.YtegiffdlfpdbkaaGreatDoorBank3
import Derived.Test.YtegiffdlfpdbkaaGreatDoorImg
import Derived.Test.YtegiffdlfpdbkaaGreatDoorImg2
import Derived.Test.YtegiffdlfpdbkaaGreatDoorCount
import Derived.Test.YtegiffdlfpdbkaaGreatDoorCntP
import Derived.Test.YtegiffdlfpdbkaaGreatDoorCntC
import Derived.Test.YtegiffdlfpdbkaaGreatDoorParse
import Derived.Test.YtegiffdlfpdbkaaGreatDoorRefL
import Derived.Test.YtegiffdlfpdbkaaGreatDoorRunP
import Derived.Test.YtegiffdlfpdbkaaGreatDoorRun1
import Derived.Test.YtegiffdlfpdbkaaGreatDoorQuietC
import Derived.Test.YtegiffdlfpdbkaaGreatDoorLiftT
import Derived.WalkKit
import Derived.WalkSpells
import Derived.WalkLawsBesides
import Derived.Lib.Hide
import Derived.BigQuiet
import Derived.Deep.QuietTactic
import Derived.Deep.RegionHeld3
import Derived.Deep.DeepCutAuto
namespace Go.Proofs.YtegiffdlfpdbkaaGreatDoor
open Go.RowKit
set_option maxRecDepth 100000
set_option linter.unusedVariables false
set_option linter.unusedSimpArgs false

/-- What an answer and an error are said as. -/
def SaidP (v : ByteArray) (e : Ending) : Prop :=
  e = .returned (.tuple #[.string v, .nilIface]) ∨ (∃ s k, k ≠ 0 ∧ I64 k ∧ e = .returned (.tuple #[.string s, errV k]) ∧ v = errN k) ∨ (∃ s, e = .returned (.tuple #[.string s, badV]) ∧ v = tBad)
theorem said_i {s : ByteArray} {k : Int} {v : ByteArray} (h0 : k = 0 → s = v) (h1 : k ≠ 0 → v = errN k) (i : I64 k) : SaidP v (.returned (.tuple #[.string s, errV k])) := by
  by_cases h : k = 0
  · left; rw [h0 h, h]; rfl
  · right; left; exact ⟨s, k, h, i, rfl, h1 h⟩
theorem str_beq (a b : ByteArray) : (a.toList == b.toList) = decide (a = b) := by
  rw [list_bytes, list_bytes]
  by_cases h : a = b
  · subst h; simp
  · rw [decide_eq_false h]
    simpa using fun e => h (bytes_ext e)
theorem sg_bd (x k m : Int) : 0 ≤ sgP x k m ∧ sgP x k m ≤ 1542 ∧ 0 ≤ sgA x k m ∧ sgA x k m ≤ 256 := by
  have h := pwI_bd 64 k
  unfold sgP sgA sealA
  split <;> omega

def KeepS (w0 : World) (gx : Nat) (P Z : Int) (w : World) : Prop := Box w gx 68 #[.int .i64 P, .int .i64 Z] ∧ TabT w ∧ Below w0.heap.size w0 w
theorem KeepS.below {w0 : World} {gx : Nat} {P Z : Int} {w w' : World} (h : KeepS w0 gx P Z w) (hb : Below w.heap.size w w') : KeepS w0 gx P Z w' := ⟨h.1.below hb, h.2.1.below hb, grow_step h.2.2 hb⟩
set_option maxHeartbeats 1000000 in
theorem seal_any (A : Option Addr) (c : Nat) (ns : List Int) (w : World) (hA : IntsAt w A ns) (hl : ns.length = 3) (ht : TabT w) :
    Calls Tryz.prog 63 #[.slice A ns.length c] w fun e w' => e = .returned (.tuple #[.string (itoaS (sgP (ns.getD 0 0) (ns.getD 1 0) (ns.getD 2 0)) ++ tSp ++ itoaS (sgA (ns.getD 0 0) (ns.getD 1 0) (ns.getD 2 0))), errV (sgE (ns.getD 0 0) (ns.getD 1 0) (ns.getD 2 0))]) ∧ Below w.heap.size w w' := by
  obtain ⟨x, k, m, rfl⟩ : ∃ x k m, ns = [x, k, m] := by
    match ns, hl with
    | [x, k, m], _ => exact ⟨x, k, m, rfl⟩
  obtain ⟨b0, off, rfl, lb, c0⟩ := hA 0 (by simp)
  obtain ⟨_, _, q1, _, c1⟩ := hA 1 (by simp)
  injection q1 with q1
  injection q1 with q1 q2 _
  subst q1 q2
  obtain ⟨_, _, q1, _, c2⟩ := hA 2 (by simp)
  injection q1 with q1
  injection q1 with q1 q2 _
  subst q1 q2
  show Calls Tryz.prog 63 #[.slice (some ⟨b0, off, none⟩) 3 c] w fun e w' => e = .returned (.tuple #[.string (itoaS (sgP x k m) ++ tSp ++ itoaS (sgA x k m)), errV (sgE x k m)]) ∧ Below w.heap.size w w'
  have c0' : w.cell? ⟨b0, off, none⟩ = some (.int .i64 x) := c0
  have c1' : w.cell? ⟨b0, off + 1, none⟩ = some (.int .i64 k) := c1
  have c2' : w.cell? ⟨b0, off + 2, none⟩ = some (.int .i64 m) := c2
  obtain ⟨p1, p2, a1, a2⟩ := sg_bd x k m
  have HS := Lib.hid (fun w => sign_any x k m w)
  have HT := Lib.hid ht
  obtain ⟨P, hP⟩ : ∃ P, sgP x k m = P := ⟨_, rfl⟩
  obtain ⟨Z, hZ⟩ : ∃ Z, sgA x k m = Z := ⟨_, rfl⟩
  obtain ⟨E, hE⟩ : ∃ E, sgE x k m = E := ⟨_, rfl⟩
  rw [hP, hZ, hE] at HS
  rw [hP] at p1 p2
  rw [hZ] at a1 a2
  rw [hP, hZ, hE]
  have z1 := itoa_len8 (v := P) p1 (by omega)
  have z2 := itoa_len8 (v := Z) a1 (by omega)
  have zs : (tSp : ByteArray).size = 1 := rfl
  have f1 : ∀ w, (Op.stringOp .add (itoaS P) { data := #[32] }).run Tryz.prog w = .ok (.string (itoaS P ++ tSp)) w := fun w => run_string_add_sum _ _ _ (by show (itoaS P).size + (tSp : ByteArray).size ≤ _; omega)
  have f2 : ∀ w, (Op.stringOp .add (itoaS P ++ tSp) (itoaS Z)).run Tryz.prog w = .ok (.string (itoaS P ++ tSp ++ itoaS Z)) w := fun w => run_string_add_sum _ _ _ (by rw [ByteArray.size_append]; show (itoaS P).size + (tSp : ByteArray).size + (itoaS Z).size ≤ _; omega)
  have HB := Lib.hid (And.intro p1 (And.intro p2 (And.intro a1 a2)))
  clear hA ht c0 c1 c2 hP hZ hE p1 p2 a1 a2 z1 z2
  go_enter Tryz.func63, Tryz.ntmps63
  go_upto_region 1 with fail
  go_cut [4, 5] (fun p e wx => ∃ gx : Nat, p = .pointer (some ⟨gx, 0, none⟩) ∧ e = errV E ∧ Hid (Box wx gx 68 #[.int .i64 P, .int .i64 Z]) ∧ Hid (Below w.heap.size w wx))
  case first =>
    have GW := grow_drew (grow_refl w)
    have GN := Box.new w 68 #[.int .i64 0, .int .i64 0]
    have GX := GN.drew_
    have W2 := grow_drew (grow_alloc (grow_refl w) (.cells #[.int .i64 0, .int .i64 0] 68))
    have HC := Lib.hid (And.intro c0' (And.intro c1' c2'))
    clear c0' c1' c2' GN
    go_region_held3 (fun w' => w'.cell? ⟨b0, off, none⟩ = some (.int .i64 x) ∧ w'.cell? ⟨b0, off + 1, none⟩ = some (.int .i64 k) ∧ w'.cell? ⟨b0, off + 2, none⟩ = some (.int .i64 m))
      (first
        | exact ⟨(GW.cell (p := ⟨b0, off, none⟩) lb).trans HC.out.1, (GW.cell (p := ⟨b0, off + 1, none⟩) lb).trans HC.out.2.1, (GW.cell (p := ⟨b0, off + 2, none⟩) lb).trans HC.out.2.2⟩
        | exact ⟨(W2.cell (p := ⟨b0, off, none⟩) lb).trans HC.out.1, (W2.cell (p := ⟨b0, off + 1, none⟩) lb).trans HC.out.2.1, (W2.cell (p := ⟨b0, off + 2, none⟩) lb).trans HC.out.2.2⟩
        | exact ⟨((grow_alloc GW _).cell (p := ⟨b0, off, none⟩) lb).trans HC.out.1, ((grow_alloc GW _).cell (p := ⟨b0, off + 1, none⟩) lb).trans HC.out.2.1, ((grow_alloc GW _).cell (p := ⟨b0, off + 2, none⟩) lb).trans HC.out.2.2⟩
        | exact ⟨((grow_set (grow_set W2 (Nat.le_refl _) _) (Nat.le_refl _) _).cell (p := ⟨b0, off, none⟩) lb).trans HC.out.1, ((grow_set (grow_set W2 (Nat.le_refl _) _) (Nat.le_refl _) _).cell (p := ⟨b0, off + 1, none⟩) lb).trans HC.out.2.1, ((grow_set (grow_set W2 (Nat.le_refl _) _) (Nat.le_refl _) _).cell (p := ⟨b0, off + 2, none⟩) lb).trans HC.out.2.2⟩
        | (go_keep; done))
      (first
        | (go_at_call 83; refine (HS.out _).mono ?_; rintro e w5 ⟨rfl, hb5⟩; have GX := GX.below hb5; have W2 := grow_step W2 hb5; have cX := GX.cell; have lX := GX.lt; have fX := GX.frozen)
        | (go_at_call 83; refine (HS.out _).mono ?_; rintro e w5 ⟨rfl, hb5⟩; have GW := grow_step GW hb5))
    · go_wp2_with fail
      go_meet
      exact ⟨w5.heap.size, rfl, rfl, Lib.hid (Box.new w5 68 #[.int .i64 P, .int .i64 Z]), Lib.hid (grow_alloc GW _)⟩
    · go_wp2_with fail
      go_meet
      exact ⟨w.heap.size, rfl, rfl, Lib.hid (GX.fill2 (.int .i64 P) (.int .i64 Z)), Lib.hid (grow_set (grow_set W2 (Nat.le_refl _) _) (Nat.le_refl _) _)⟩
  case rest =>
    obtain ⟨gx, rfl, rfl, HG, HW⟩ := hcut
    have cG := HG.out.cell
    have lG := HG.out.lt
    go_upto_region 2 with fail
    refine region_quiet (fun w' => KeepS w gx P Z w') (by kernel_rfl) (by kernel_rfl) ⟨HG.out, HT.out.below (grow_drew HW.out), grow_drew HW.out⟩ ?_
    repeat (go_big_quiet_step (first
      | (intro hC; rfl)
      | (intro hC; go_at_call 76; exact quiet_class (itoa9_any _ _ (by have := HB.out; omega) (by have := HB.out; omega) hC.2.1) (fun w' hb => hC.below hb))
      | (intro hC; have e1 := hC.1.cell 0; have e2 := hC.1.cell 1; simp only [e1, e2]; rfl)
      | (intro hC; have e1 := hC.1.cell 0; have e2 := hC.1.cell 1; simp [e1, e2, f1, f2]; try rfl)))
    refine wpQuiet_nil ?_
    intro w8 E1
    go_wp2_with fail
    go_ret2
    exact ⟨rfl, E1.2.2⟩


end Go.Proofs.YtegiffdlfpdbkaaGreatDoor
