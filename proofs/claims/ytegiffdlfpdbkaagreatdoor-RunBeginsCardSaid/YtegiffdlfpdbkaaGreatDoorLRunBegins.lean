/- The answers to the beginning of a session are a beginning of its answers, for every text and every number of lines. -/
import Derived.Test.YtegiffdlfpdbkaaGreatDoorRows
import Derived.Test.YtegiffdlfpdbkaaGreatDoorNum
import Derived.Test.YtegiffdlfpdbkaaGreatDoorSeal
import Derived.Test.YtegiffdlfpdbkaaGreatDoorBase
import Derived.Test.YtegiffdlfpdbkaaGreatDoorApp
import Derived.Test.YtegiffdlfpdbkaaGreatDoorFoot
import Derived.Test.YtegiffdlfpdbkaaGreatDoorOpen
import Derived.Test.YtegiffdlfpdbkaaGreatDoorLift
import Derived.Test.YtegiffdlfpdbkaaGreatDoorLiftD
import Derived.Test.YtegiffdlfpdbkaaGreatDoorLiftW
import Derived.Test.YtegiffdlfpdbkaaGreatDoorImg
import Derived.Test.YtegiffdlfpdbkaaGreatDoorParse
import Derived.Test.YtegiffdlfpdbkaaGreatDoorRefCut
import Derived.Test.YtegiffdlfpdbkaaGreatDoorRefL
import Derived.Test.YtegiffdlfpdbkaaGreatDoorCutW
import Derived.Test.YtegiffdlfpdbkaaGreatDoorRunP
import Derived.Test.YtegiffdlfpdbkaaGreatDoorRunL
import Derived.Test.YtegiffdlfpdbkaaGreatDoorRunS
import Derived.Test.YtegiffdlfpdbkaaGreatDoorSesP
import Derived.Test.YtegiffdlfpdbkaaGreatDoorBegP
import Derived.Test.YtegiffdlfpdbkaaGreatDoorRun1
import Derived.Test.YtegiffdlfpdbkaaGreatDoorRun10
import Derived.WalkKit
import Derived.WalkSpells
import Derived.WalkLawsBesides
import Derived.Lib.Hide
import Derived.BigQuiet
import Derived.Deep.QuietTactic
import Derived.Deep.RegionHeld3
import Derived.Deep.DeepCutAuto
namespace Go.Proofs.YtegiffdlfpdbkaaGreatDoor
open Go.ChangeShapes Go.WideShapes Go.ChangeAt Go.RowKit
set_option maxRecDepth 100000
set_option linter.unusedVariables false
set_option linter.unusedSimpArgs false

theorem run_too {t : ByteArray} (h : 3000 < t.size) : runT t = { data := #[116, 111, 111, 32, 108, 111, 110, 103, 10] } := by unfold runT; rw [if_pos h]

set_option maxHeartbeats 4000000 in
theorem runBegins_walk (W : World) (t : ByteArray) (many : Int) (z0 : t.size ≤ reachBytes) (i0 : I64 many) (hsh : W.ShapedOpen Tryz.prog) (hd : RunD W) :
    Calls Tryz.prog 4 #[.string t, .int .i64 many] W fun e w' => e = .returned (.bool true) ∧ Below W.heap.size W w' := by
  have HRUN : Hid (∀ t w, Below W.heap.size W w → Calls Tryz.prog 6 #[.string t] w fun e w' => e = .returned (.string (runT t)) ∧ Below w.heap.size w w') := Lib.hid (fun t w hb => run_any t w ((hd.read hsh).below hb) (hd.2.1.below hb) (hd.1.2.below hb))
  clear hsh hd i0
  by_cases hz : 3000 < t.size
  · have HL := Lib.hid (run_too hz)
    have hz1 : (3000 : Int) < (t.size : Int) := by omega
    clear hz z0
    go_enter Tryz.func4, Tryz.ntmps4
    go_wp2_with fail
    refine (HRUN.out _ _ (grow_refl _)).mono ?_
    rintro e w1 ⟨he, hb1⟩
    obtain rfl : e = .returned (.string fixA) := he.trans (congrArg (fun z => Ending.returned (.string z)) (fix_run _ (by rfl)))
    clear he
    go_wp2_with fail
    refine (HRUN.out _ _ hb1).mono ?_
    rintro e w2 ⟨he, hb2⟩
    obtain rfl : e = .returned (.string { data := #[116, 111, 111, 32, 108, 111, 110, 103, 10] }) := he.trans (congrArg (fun z => Ending.returned (.string z)) HL.out)
    clear he
    have hW2 := grow_step hb1 hb2
    go_wp2_with fail
    go_ret
    exact ⟨rfl, hW2⟩
  · have hz1 : ¬ (3000 : Int) < (t.size : Int) := by omega
    have HZ := Lib.hid (show t.size ≤ 3000 by omega)
    have hz2 : t.size ≤ 3000 := by omega
    clear hz z0
    go_enter Tryz.func4, Tryz.ntmps4
    go_wp2_with fail
    refine (HRUN.out _ _ (grow_refl _)).mono ?_
    rintro e w1 ⟨he, hb1⟩
    obtain rfl : e = .returned (.string fixA) := he.trans (congrArg (fun z => Ending.returned (.string z)) (fix_run _ (by rfl)))
    have HW1 := Lib.hid hb1
    clear he hb1
    go_wp2_with fail
    go_loop [7, 8] (fun a b => ∃ k n : Nat, a = .int .i64 k ∧ b = .int .i64 n ∧ k ≤ t.size ∧ n ≤ k ∧ Hid ((n : Int) < many ∨ Whole t k)) (fun a _ => t.size - (intOf a).toNat)
    case atStart => exact ⟨0, 0, rfl, rfl, Nat.zero_le _, Nat.le_refl _, Lib.hid (Or.inr (Or.inl rfl))⟩
    case round =>
      obtain ⟨k, n, rfl, rfl, hk, hn, HWH⟩ := hrel
      by_cases hlt : k < t.size
      · by_cases hm : (n : Int) < many
        · by_cases h1 : (t[k]).toNat = 10
          · have HW2 := Lib.hid (whole_step hlt h1)
            have h1' : ((t[k]).toNat : Int) = 10 := by omega
            go_wp2_with fail
            go_round
            case rel => exact ⟨k + 1, n + 1, by go_num, by go_num, by omega, by omega, Lib.hid (Or.inr HW2.out)⟩
            case measure => simp [intOf]; omega
          · have h1' : ¬ ((t[k]).toNat : Int) = 10 := by omega
            have HM := Lib.hid hm
            go_wp2_with fail
            go_round
            case rel => exact ⟨k + 1, n, by go_num, rfl, by omega, by omega, Lib.hid (Or.inl HM.out)⟩
            case measure => simp [intOf]; omega
        · have HX : Hid (∃ r, runT t = runT (t.extract 0 k) ++ r) := Lib.hid (begins_whole t k HZ.out (HWH.out.resolve_left hm))
          obtain ⟨r, hr⟩ := HX.out
          obtain ⟨a, ha⟩ : ∃ a, runT (t.extract 0 k) = a := ⟨_, rfl⟩
          have HA := Lib.hid (fun w hb => HRUN.out (t.extract 0 k) w hb)
          have HB := Lib.hid (fun w hb => HRUN.out t w hb)
          rw [hr, ha] at HB
          rw [ha] at HA
          have hpe := prefix_eq a r
          have hps : (a.size : Int) ≤ ((a ++ r).size : Int) := by rw [ByteArray.size_append]; omega
          have HPE := Lib.hid hpe
          have HPS := Lib.hid hps
          obtain ⟨R, hR⟩ : ∃ R, a ++ r = R := ⟨_, rfl⟩
          rw [hR] at HB hpe hps
          clear hr ha hR HX
          have hps2 : a.size ≤ R.size := by omega
          go_wp2_with fail
          refine (HA.out _ HW1.out).mono ?_
          rintro e w2 ⟨rfl, hb2⟩
          have hW2 := grow_step HW1.out hb2
          go_wp2_with fail
          refine (HB.out _ hW2).mono ?_
          rintro e w3 ⟨rfl, hb3⟩
          have hW3 := grow_step hW2 hb3
          clear hb2 hb3
          go_wp2_with fail
          go_ret
          exact ⟨rfl, hW3⟩
      · have hkk : k = t.size := by omega
        have HX : Hid (∃ r, runT t = runT (t.extract 0 k) ++ r) := Lib.hid (by rw [hkk]; exact begins_all t)
        clear hkk
        obtain ⟨r, hr⟩ := HX.out
        obtain ⟨a, ha⟩ : ∃ a, runT (t.extract 0 k) = a := ⟨_, rfl⟩
        have HA := Lib.hid (fun w hb => HRUN.out (t.extract 0 k) w hb)
        have HB := Lib.hid (fun w hb => HRUN.out t w hb)
        rw [hr, ha] at HB
        rw [ha] at HA
        have hpe := prefix_eq a r
        have hps : (a.size : Int) ≤ ((a ++ r).size : Int) := by rw [ByteArray.size_append]; omega
        have HPE := Lib.hid hpe
        have HPS := Lib.hid hps
        obtain ⟨R, hR⟩ : ∃ R, a ++ r = R := ⟨_, rfl⟩
        rw [hR] at HB hpe hps
        clear hr ha hR HX
        have hps2 : a.size ≤ R.size := by omega
        go_wp2_with fail
        refine (HA.out _ HW1.out).mono ?_
        rintro e w2 ⟨rfl, hb2⟩
        have hW2 := grow_step HW1.out hb2
        go_wp2_with fail
        refine (HB.out _ hW2).mono ?_
        rintro e w3 ⟨rfl, hb3⟩
        have hW3 := grow_step hW2 hb3
        clear hb2 hb3
        go_wp2_with fail
        go_ret
        exact ⟨rfl, hW3⟩

set_option maxRecDepth 100000 in
theorem runBegins_walks (H : Type) (enc : TypeId × Value → H) : WalksD enc Tryz.prog RunD 4 Tryz.f4 := by
  intro W base args ds p hval hA hlt hsz hsh hdoor
  have hsz0 := hsz
  rw [Tryz.params4] at hA hval
  obtain ⟨v0, vs0, d0, ds0, p0, q0, hargs, rfl, rfl, h0, r0⟩ := trodAll_cons hA
  obtain ⟨v1, vs1, d1, ds1, p1, q1, rfl, rfl, rfl, h1, r1⟩ := trodAll_cons r0
  obtain ⟨rfl, rfl, rfl⟩ := trodAll_nil r1
  obtain rfl : args = #[v0, v1] := by cases args; simp_all
  obtain ⟨a0, rfl, w0⟩ := op_str (hval 0 9 v0 rfl rfl) h0 (w_each hsz 0 9 _ (by rw [Tryz.params4]; rfl) rfl)
  obtain ⟨a1, rfl, w1⟩ := op_int (hval 1 3 v1 rfl rfl) h1
  exact runBegins_walk W a0 a1 w0 w1 hsh hdoor

set_option maxRecDepth 100000 in
theorem runBegins_lifted (os : Os) (started : os.Started) (H : Type) (enc : TypeId × Value → H) :
    ReturnsInHanded {} Tryz.checked os 4 .any (fun w args => (Rows.runBeginsSpec.pre enc Tryz.checked.prog Tryz.f4 [] false w args ∧ laidMetH Tryz.checked.prog LaidW w) ∧ sizedMet enc Tryz.checked.prog Tryz.f4 (OpenSpec.ofChange Rows.runBeginsSpec) false w args) (Rows.runBeginsSpec.post enc Tryz.checked.prog Tryz.f4 false true false false) :=
  returns_of_walkD (C := Tryz.checked) (s := Rows.runBeginsSpec) (L := LaidW) (D := RunD) own started (by kernel_rfl) Tryz.func4
    (ChangeSpec.witness_at (enc := enc) (C := Tryz.checked) (os := os) (X := fun w _ => laidMetH Tryz.prog LaidW w) false (laidWorldW os) #[.string ⟨#[]⟩, .int .i64 0] 8 rfl (by kernel_rfl) (by kernel_rfl) (by kernel_rfl) (by kernel_rfl) (by kernel_rfl) (laidWorldW_met os _))
    (fun W h => tabW_of_laid h) laidOut (by kernel_rfl) rfl Tryz.underlying4 rfl (fun ds h => by match ds, h with | [_, _], _ => rfl) (runBegins_walks H enc)

theorem runBegins_bare : Rows.RunBeginsSaid :=
  OpenClaim.holds_of_wide 4 Tryz.f4 rfl rfl rfl rfl rfl rfl rfl ⟨rfl, rfl, rfl, rfl, rfl⟩ rfl rfl rfl rfl rfl (by kernel_rfl) Tryz.func4 (by kernel_rfl)
    (of_decide_eq_true (by kernel_rfl)) (by unfold Func.isWrapper; rw [if_neg (of_decide_eq_false (by kernel_rfl))]; exact ⟨rfl, rfl⟩)
    (fun os started H enc _ => runBegins_lifted os started H enc)

theorem runBegins_holds : Rows.RunBeginsCardSaid :=
  Claim7.holds_tied_plain_at .later [] [.data, .data, .data, .data, .handle, .sentinel, .sentinel, .wider, .pinned] true Rows.runBeginsCard.stood.harness true
    runBegins_bare (fun _ h => by cases h) (by kernel_rfl) (fun _ h => by cases h) runBegins_row_tie rfl ⟨rfl, rfl⟩ (by kernel_rfl) rfl
    (fun f fn hf hfn => by
      obtain rfl : f = 4 := Option.some.inj ((show Tryz.prog.funcNamed "bootstair/stairlaw3.RunBegins" = some 4 by kernel_rfl).symm.trans hf) |>.symm
      obtain rfl : fn = Tryz.f4 := (Option.some.inj (Tryz.func4.symm.trans hfn)).symm
      exact ⟨by kernel_rfl, fun j t ht => by
        have hm : t ∈ Tryz.f4.params.toList := by simpa using Array.mem_of_getElem? ht
        have hall : (Tryz.f4.params.toList.all fun u => !Tryz.prog.wantsStandIn u) = true := by kernel_rfl
        exact (show Tryz.prog.wantsStandIn t = false by simpa using List.all_eq_true.1 hall t hm)⟩)
    (by kernel_rfl)

end Go.Proofs.YtegiffdlfpdbkaaGreatDoor
