/- A session seals: what is signed is right when it is checked, for every secret, every number and every measure. -/
import Derived.Test.YtegiffdlfpdbkaaGreatDoorRows
import Derived.Test.YtegiffdlfpdbkaaGreatDoorNum
import Derived.Test.YtegiffdlfpdbkaaGreatDoorSeal
import Derived.Test.YtegiffdlfpdbkaaGreatDoorBase
import Derived.Test.YtegiffdlfpdbkaaGreatDoorApp
import Derived.Test.YtegiffdlfpdbkaaGreatDoorFoot
import Derived.Test.YtegiffdlfpdbkaaGreatDoorOpen
import Derived.Test.YtegiffdlfpdbkaaGreatDoorLift
import Derived.Test.YtegiffdlfpdbkaaGreatDoorLiftD
import Derived.Test.YtegiffdlfpdbkaaGreatDoorLiftW
import Derived.Test.YtegiffdlfpdbkaaGreatDoorImg
import Derived.Test.YtegiffdlfpdbkaaGreatDoorParse
import Derived.Test.YtegiffdlfpdbkaaGreatDoorRefCut
import Derived.Test.YtegiffdlfpdbkaaGreatDoorRefL
import Derived.Test.YtegiffdlfpdbkaaGreatDoorCutW
import Derived.Test.YtegiffdlfpdbkaaGreatDoorRunP
import Derived.Test.YtegiffdlfpdbkaaGreatDoorRunL
import Derived.Test.YtegiffdlfpdbkaaGreatDoorRunS
import Derived.Test.YtegiffdlfpdbkaaGreatDoorSesP
import Derived.Test.YtegiffdlfpdbkaaGreatDoorRun1
import Derived.Test.YtegiffdlfpdbkaaGreatDoorRun10
import Derived.WalkKit
import Derived.WalkSpells
import Derived.WalkLawsBesides
import Derived.Lib.Hide
import Derived.BigQuiet
import Derived.Deep.QuietTactic
import Derived.Deep.RegionHeld3
import Derived.Deep.DeepCutAuto
namespace Go.Proofs.YtegiffdlfpdbkaaGreatDoor
open Go.ChangeShapes Go.WideShapes Go.ChangeAt Go.RowKit
set_option maxRecDepth 100000
set_option linter.unusedVariables false
set_option linter.unusedSimpArgs false

theorem itoa_low (n : Nat) (h : n < 10) : itoaS (n : Int) = toB [UInt8.ofNat (48 + n)] := by
  rw [← digS_itoa, digS_low h, tenS_at n h]; rfl
abbrev tErr : ByteArray := { data := #[69, 114, 114, 82, 97, 110, 103, 101, 10] }
theorem ses_bad : runT { data := #[115, 105, 103, 110, 32, 48, 32, 49, 32, 49, 10] } = tErr := by
  unfold runT
  rw [if_neg (by decide)]
  have e1 : linesT { data := #[115, 105, 103, 110, 32, 48, 32, 49, 32, 49, 10] } = [toB [115, 105, 103, 110, 32, 48, 32, 49, 32, 49]] := by rw [lines_toB]; rfl
  have e2 : wordsB (toB [115, 105, 103, 110, 32, 48, 32, 49, 32, 49]) = [wSign, itoaS 0, itoaS 1, itoaS 1] := by
    rw [words_toB, show (0 : Int) = ((0 : Nat) : Int) from rfl, show (1 : Int) = ((1 : Nat) : Int) from rfl, itoa_low 0 (by decide), itoa_low 1 (by decide)]; rfl
  rw [e1]
  unfold runF
  simp only [List.foldl_cons, List.foldl_nil, stepR, e2, line_sign _ 0 1 1 (by omega) (by omega) (by omega)]
  rfl

set_option maxHeartbeats 4000000 in
theorem runSeals_walk (W : World) (x k m : Int) (i0 : I64 x) (i1 : I64 k) (i2 : I64 m) (hsh : W.ShapedOpen Tryz.prog) (hd : RunD W) :
    Calls Tryz.prog 5 #[.int .i64 x, .int .i64 k, .int .i64 m] W fun e w' => e = .returned (.bool true) ∧ Below W.heap.size W w' := by
  have HRUN : Hid (∀ t w, Below W.heap.size W w → Calls Tryz.prog 6 #[.string t] w fun e w' => e = .returned (.string (runT t)) ∧ Below w.heap.size w w') := Lib.hid (fun t w hb => run_any t w ((hd.read hsh).below hb) (hd.2.1.below hb) (hd.1.2.below hb))
  have HBAD : Hid (∀ w, Below W.heap.size W w → Calls Tryz.prog 6 #[.string { data := #[115, 105, 103, 110, 32, 48, 32, 49, 32, 49, 10] }] w fun e w' => e = .returned (.string { data := #[69, 114, 114, 82, 97, 110, 103, 101, 10] }) ∧ Below w.heap.size w w') := Lib.hid (fun w hb => by
    have h := HRUN.out { data := #[115, 105, 103, 110, 32, 48, 32, 49, 32, 49, 10] } w hb
    rw [ses_bad] at h
    exact h)
  clear hsh hd i0 i1 i2
  by_cases c1 : x < 1
  · clear HRUN
    go_enter Tryz.func5, Tryz.ntmps5
    go_wp2_with fail
    refine (HBAD.out _ (grow_refl _)).mono ?_
    rintro e w1 ⟨rfl, hb⟩
    go_wp2_with fail
    go_ret
    exact ⟨rfl, hb⟩
  by_cases c2 : 256 < x
  · clear HRUN
    go_enter Tryz.func5, Tryz.ntmps5
    go_wp2_with fail
    refine (HBAD.out _ (grow_refl _)).mono ?_
    rintro e w1 ⟨rfl, hb⟩
    go_wp2_with fail
    go_ret
    exact ⟨rfl, hb⟩
  by_cases c3 : k < 1
  · clear HRUN
    go_enter Tryz.func5, Tryz.ntmps5
    go_wp2_with fail
    refine (HBAD.out _ (grow_refl _)).mono ?_
    rintro e w1 ⟨rfl, hb⟩
    go_wp2_with fail
    go_ret
    exact ⟨rfl, hb⟩
  by_cases c4 : 256 < k
  · clear HRUN
    go_enter Tryz.func5, Tryz.ntmps5
    go_wp2_with fail
    refine (HBAD.out _ (grow_refl _)).mono ?_
    rintro e w1 ⟨rfl, hb⟩
    go_wp2_with fail
    go_ret
    exact ⟨rfl, hb⟩
  by_cases c5 : m < 0
  · clear HRUN
    go_enter Tryz.func5, Tryz.ntmps5
    go_wp2_with fail
    refine (HBAD.out _ (grow_refl _)).mono ?_
    rintro e w1 ⟨rfl, hb⟩
    go_wp2_with fail
    go_ret
    exact ⟨rfl, hb⟩
  by_cases c6 : 1000002 < m
  · clear HRUN
    go_enter Tryz.func5, Tryz.ntmps5
    go_wp2_with fail
    refine (HBAD.out _ (grow_refl _)).mono ?_
    rintro e w1 ⟨rfl, hb⟩
    go_wp2_with fail
    go_ret
    exact ⟨rfl, hb⟩
  have hx : 1 ≤ x ∧ x ≤ 256 := by omega
  have hk : 1 ≤ k ∧ k ≤ 256 := by omega
  have hm : 0 ≤ m ∧ m ≤ 1000002 := by omega
  obtain ⟨z1, z2, z3⟩ := ses_small hx hk hm
  have h1 := ses1_cut hx hk hm
  have h2 := ses2_run hx hk hm
  have hrs : (runT (ses1 (itoaS x) (itoaS k) (itoaS m))).size ≤ 1000 := by
    rw [ses1_run hx hk hm]
    have b1 := pwI_bd 64 x
    have b2 := pwI_bd 64 k
    have b3 := sealA_bd x k m
    have y1 := itoa_len8 (v := pwI 64 x) b1.1 (by omega)
    have y2 := itoa_len8 (v := pwI 64 k) b2.1 (by omega)
    have y3 := itoa_len8 (v := sealA x k m) b3.1 (by omega)
    have a3 : (tSp : ByteArray).size = 1 := rfl
    have a4 : (tNl : ByteArray).size = 1 := rfl
    simp only [ByteArray.size_append]
    omega
  have b1 := pwI_bd 64 x
  have b2 := pwI_bd 64 k
  have b3 := sealA_bd x k m
  have y0 := itoa_len8 (v := pwI 64 x) b1.1 (by omega)
  have y1 : (itoaS (pwI 64 k) ++ tSp ++ itoaS (sealA x k m)).size ≤ 20 := by
    have y2 := itoa_len8 (v := pwI 64 k) b2.1 (by omega)
    have y3 := itoa_len8 (v := sealA x k m) b3.1 (by omega)
    have a3 : (tSp : ByteArray).size = 1 := rfl
    simp only [ByteArray.size_append]
    omega
  have HDX := Lib.hid (fun w => rDigits_any x w (by omega) (by omega))
  have HDK := Lib.hid (fun w => rDigits_any k w (by omega) (by omega))
  have HDM := Lib.hid (fun w => rDigits_any m w (by omega) (by omega))
  obtain ⟨R1, hR1⟩ : ∃ R1, runT (ses1 (itoaS x) (itoaS k) (itoaS m)) = R1 := ⟨_, rfl⟩
  rw [hR1] at h1 hrs
  obtain ⟨a, ha⟩ : ∃ a, itoaS x = a := ⟨_, rfl⟩
  obtain ⟨b, hb⟩ : ∃ b, itoaS k = b := ⟨_, rfl⟩
  obtain ⟨c, hc⟩ : ∃ c, itoaS m = c := ⟨_, rfl⟩
  obtain ⟨l0, hl0⟩ : ∃ l0, itoaS (pwI 64 x) = l0 := ⟨_, rfl⟩
  obtain ⟨l1, hl1⟩ : ∃ l1, itoaS (pwI 64 k) ++ tSp ++ itoaS (sealA x k m) = l1 := ⟨_, rfl⟩
  rw [ha] at HDX hR1 z1
  rw [hb] at HDK hR1 z2
  rw [hc] at HDM hR1 h2 z3
  rw [hl0, hl1] at h1 h2
  rw [hl0] at y0
  rw [hl1] at y1
  have HR1 : Hid (∀ w, Below W.heap.size W w → Calls Tryz.prog 6 #[.string (tPub ++ a ++ tSgn ++ a ++ tSp ++ b ++ tSp ++ c ++ tNl)] w fun e w' => e = .returned (.string R1) ∧ Below w.heap.size w w') := Lib.hid (fun w hb => by
    have h := HRUN.out (ses1 a b c) w hb
    rw [hR1] at h
    exact h)
  have HR2 : Hid (∀ w, Below W.heap.size W w → Calls Tryz.prog 6 #[.string (tChk ++ l0 ++ tSp ++ c ++ tSp ++ l1 ++ tNl)] w fun e w' => e = .returned (.string { data := #[121, 101, 115, 10] }) ∧ Below w.heap.size w w') := Lib.hid (fun w hb => by
    have h := HRUN.out (ses2 l0 c l1) w hb
    rw [h2] at h
    exact h)
  have HCU : Hid (∀ w, Calls Tryz.prog 7 #[.string R1, .int .u8 10] w fun e w' => ∃ (A : Option Addr) (cp : Nat), e = .returned (.slice A 3 cp) ∧ CellsAt w' A (strCells [l0, l1, tNil]) ∧ Below w.heap.size w w') := Lib.hid (fun w => by
    have h := rCut_any R1 10 10 rfl w (by omega)
    rw [h1] at h
    exact h)
  have s1 : (tPub : ByteArray).size = 7 := rfl
  have s2 : (tSgn : ByteArray).size = 6 := rfl
  have s3 : (tSp : ByteArray).size = 1 := rfl
  have s4 : (tNl : ByteArray).size = 1 := rfl
  have s5 : (tChk : ByteArray).size = 6 := rfl
  have add : ∀ (p q : ByteArray), p.size + q.size ≤ 1000 → ∀ w, (Op.stringOp .add p q).run Tryz.prog w = .ok (.string (p ++ q)) w := fun p q h w => run_string_add_sum _ _ _ (by omega)
  have f1 := add tPub a (by omega)
  have f2 := add (tPub ++ a) tSgn (by simp only [ByteArray.size_append]; omega)
  have f3 := add (tPub ++ a ++ tSgn) a (by simp only [ByteArray.size_append]; omega)
  have f4 := add (tPub ++ a ++ tSgn ++ a) tSp (by simp only [ByteArray.size_append]; omega)
  have f5 := add (tPub ++ a ++ tSgn ++ a ++ tSp) b (by simp only [ByteArray.size_append]; omega)
  have f6 := add (tPub ++ a ++ tSgn ++ a ++ tSp ++ b) tSp (by simp only [ByteArray.size_append]; omega)
  have f7 := add (tPub ++ a ++ tSgn ++ a ++ tSp ++ b ++ tSp) c (by simp only [ByteArray.size_append]; omega)
  have f8 := add (tPub ++ a ++ tSgn ++ a ++ tSp ++ b ++ tSp ++ c) tNl (by simp only [ByteArray.size_append]; omega)
  have g1 := add tChk l0 (by omega)
  have g2 := add (tChk ++ l0) tSp (by simp only [ByteArray.size_append]; omega)
  have g3 := add (tChk ++ l0 ++ tSp) c (by simp only [ByteArray.size_append]; omega)
  have g4 := add (tChk ++ l0 ++ tSp ++ c) tSp (by simp only [ByteArray.size_append]; omega)
  have g5 := add (tChk ++ l0 ++ tSp ++ c ++ tSp) l1 (by simp only [ByteArray.size_append]; omega)
  have g6 := add (tChk ++ l0 ++ tSp ++ c ++ tSp ++ l1) tNl (by simp only [ByteArray.size_append]; omega)
  clear HRUN HBAD h1 h2 hrs ha hb hc hl0 hl1 hR1 z1 z2 z3 y0 y1 b1 b2 b3 s1 s2 s3 s4 s5 add hx hk hm
  go_enter Tryz.func5, Tryz.ntmps5
  go_wp2_with fail
  refine (HDX.out _).mono ?_
  rintro e w1 ⟨rfl, rfl⟩
  go_wp2_with fail
  refine (HDK.out _).mono ?_
  rintro e w1 ⟨rfl, rfl⟩
  go_wp2_with fail
  refine (HDM.out _).mono ?_
  rintro e w1 ⟨rfl, rfl⟩
  go_wp2_with fail
  refine (HR1.out _ (grow_refl _)).mono ?_
  rintro e w1 ⟨rfl, hb1⟩
  go_wp2_with fail
  refine (HCU.out _).mono ?_
  rintro e w2 ⟨A, cp, rfl, hC, hb2⟩
  have hW2 : Below W.heap.size W w2 := grow_step hb1 hb2
  have HW2 := Lib.hid hW2
  obtain ⟨b0, off, rfl, lb, d0⟩ := hC 0 (.string l0) rfl
  obtain ⟨_, _, q1, _, d1⟩ := hC 1 (.string l1) rfl
  injection q1 with q1
  injection q1 with q1 q2 _
  subst q1 q2
  have d0' : w2.cell? ⟨b0, off, none⟩ = some (.string l0) := d0
  have d1' : w2.cell? ⟨b0, off + 1, none⟩ = some (.string l1) := d1
  have HCC := Lib.hid (And.intro d0' d1')
  clear hC d0 d1 d0' d1' hb1 hb2 hW2
  go_upto_region 10 with fail
  have GW := grow_drew (grow_refl w2)
  go_region_held3 (fun w' => w'.cell? ⟨b0, off, none⟩ = some (.string l0) ∧ w'.cell? ⟨b0, off + 1, none⟩ = some (.string l1))
    (first
      | exact ⟨(GW.cell (p := ⟨b0, off, none⟩) lb).trans HCC.out.1, (GW.cell (p := ⟨b0, off + 1, none⟩) lb).trans HCC.out.2⟩
      | (go_keep; done))
    (first
      | (go_at_call 6; refine (HR2.out _ (grow_step HW2.out GW)).mono ?_; rintro e w5 ⟨rfl, hb5⟩; have GW := grow_step GW hb5))
  have hW5 : Below W.heap.size W w5 := grow_step HW2.out GW
  go_wp2_with fail
  go_ret
  exact ⟨rfl, hW5⟩

set_option maxRecDepth 100000 in
theorem runSeals_walks (H : Type) (enc : TypeId × Value → H) : WalksD enc Tryz.prog RunD 5 Tryz.f5 := by
  intro W base args ds p hval hA hlt hsz hsh hdoor
  have hsz0 := hsz
  rw [Tryz.params5] at hA hval
  obtain ⟨v0, vs0, d0, ds0, p0, q0, hargs, rfl, rfl, h0, r0⟩ := trodAll_cons hA
  obtain ⟨v1, vs1, d1, ds1, p1, q1, rfl, rfl, rfl, h1, r1⟩ := trodAll_cons r0
  obtain ⟨v2, vs2, d2, ds2, p2, q2, rfl, rfl, rfl, h2, r2⟩ := trodAll_cons r1
  obtain ⟨rfl, rfl, rfl⟩ := trodAll_nil r2
  obtain rfl : args = #[v0, v1, v2] := by cases args; simp_all
  obtain ⟨a0, rfl, w0⟩ := op_int (hval 0 3 v0 rfl rfl) h0
  obtain ⟨a1, rfl, w1⟩ := op_int (hval 1 3 v1 rfl rfl) h1
  obtain ⟨a2, rfl, w2⟩ := op_int (hval 2 3 v2 rfl rfl) h2
  exact runSeals_walk W a0 a1 a2 w0 w1 w2 hsh hdoor

set_option maxRecDepth 100000 in
theorem runSeals_lifted (os : Os) (started : os.Started) (H : Type) (enc : TypeId × Value → H) :
    ReturnsInHanded {} Tryz.checked os 5 .any (fun w args => (Rows.runSealsSpec.pre enc Tryz.checked.prog Tryz.f5 [] false w args ∧ laidMetH Tryz.checked.prog LaidW w) ∧ sizedMet enc Tryz.checked.prog Tryz.f5 (OpenSpec.ofChange Rows.runSealsSpec) false w args) (Rows.runSealsSpec.post enc Tryz.checked.prog Tryz.f5 false true false false) :=
  returns_of_walkD (C := Tryz.checked) (s := Rows.runSealsSpec) (L := LaidW) (D := RunD) own started (by kernel_rfl) Tryz.func5
    (ChangeSpec.witness_at (enc := enc) (C := Tryz.checked) (os := os) (X := fun w _ => laidMetH Tryz.prog LaidW w) false (laidWorldW os) #[.int .i64 0, .int .i64 0, .int .i64 0] 8 rfl (by kernel_rfl) (by kernel_rfl) (by kernel_rfl) (by kernel_rfl) (by kernel_rfl) (laidWorldW_met os _))
    (fun W h => tabW_of_laid h) laidOut (by kernel_rfl) rfl Tryz.underlying4 rfl (fun ds h => by match ds, h with | [_, _, _], _ => rfl) (runSeals_walks H enc)

theorem runSeals_bare : Rows.RunSealsSaid :=
  OpenClaim.holds_of_wide 5 Tryz.f5 rfl rfl rfl rfl rfl rfl rfl ⟨rfl, rfl, rfl, rfl, rfl⟩ rfl rfl rfl rfl rfl (by kernel_rfl) Tryz.func5 (by kernel_rfl)
    (of_decide_eq_true (by kernel_rfl)) (by unfold Func.isWrapper; rw [if_neg (of_decide_eq_false (by kernel_rfl))]; exact ⟨rfl, rfl⟩)
    (fun os started H enc _ => runSeals_lifted os started H enc)

theorem runSeals_holds : Rows.RunSealsCardSaid :=
  Claim7.holds_tied_plain_at .later [] [.data, .data, .data, .data, .handle, .sentinel, .sentinel, .wider, .pinned] true Rows.runSealsCard.stood.harness true
    runSeals_bare (fun _ h => by cases h) (by kernel_rfl) (fun _ h => by cases h) runSeals_row_tie rfl ⟨rfl, rfl⟩ (by kernel_rfl) rfl
    (fun f fn hf hfn => by
      obtain rfl : f = 5 := Option.some.inj ((show Tryz.prog.funcNamed "bootstair/stairlaw3.RunSeals" = some 5 by kernel_rfl).symm.trans hf) |>.symm
      obtain rfl : fn = Tryz.f5 := (Option.some.inj (Tryz.func5.symm.trans hfn)).symm
      exact ⟨by kernel_rfl, fun j t ht => by
        have hm : t ∈ Tryz.f5.params.toList := by simpa using Array.mem_of_getElem? ht
        have hall : (Tryz.f5.params.toList.all fun u => !Tryz.prog.wantsStandIn u) = true := by kernel_rfl
        exact (show Tryz.prog.wantsStandIn t = false by simpa using List.all_eq_true.1 hall t hm)⟩)
    (by kernel_rfl)

end Go.Proofs.YtegiffdlfpdbkaaGreatDoor
