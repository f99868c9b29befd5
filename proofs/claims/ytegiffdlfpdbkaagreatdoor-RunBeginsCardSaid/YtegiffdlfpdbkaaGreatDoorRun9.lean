/- run: what a line is answered with: an error by its name. -/
import Derived.Test.YtegiffdlfpdbkaaGreatDoorRows
import Derived.Test.YtegiffdlfpdbkaaGreatDoorNum
import Derived.Test.YtegiffdlfpdbkaaGreatDoorBase
import Derived.Test.YtegiffdlfpdbkaaGreatDoorApp
import Derived.Test.YtegiffdlfpdbkaaGreatDoorFoot
import Derived.Test.YtegiffdlfpdbkaaGreatDoorImg
import Derived.Test.YtegiffdlfpdbkaaGreatDoorCount
import Derived.Test.YtegiffdlfpdbkaaGreatDoorCntP
import Derived.Test.YtegiffdlfpdbkaaGreatDoorCntC
import Derived.Test.YtegiffdlfpdbkaaGreatDoorNumP
import Derived.Test.YtegiffdlfpdbkaaGreatDoorParse
import Derived.Test.YtegiffdlfpdbkaaGreatDoorRefCut
import Derived.Test.YtegiffdlfpdbkaaGreatDoorRefNum
import Derived.Test.YtegiffdlfpdbkaaGreatDoorRunP
import Derived.Test.YtegiffdlfpdbkaaGreatDoorRunL
import Derived.Test.YtegiffdlfpdbkaaGreatDoorRunS
import Derived.Test.YtegiffdlfpdbkaaGreatDoorRun1
import Derived.Test.YtegiffdlfpdbkaaGreatDoorRun2
import Derived.Test.YtegiffdlfpdbkaaGreatDoorRun3
import Derived.Test.YtegiffdlfpdbkaaGreatDoorRun4
import Derived.Test.YtegiffdlfpdbkaaGreatDoorRun5
import Derived.Test.YtegiffdlfpdbkaaGreatDoorRun6
import Derived.Test.YtegiffdlfpdbkaaGreatDoorRun7
import Derived.Test.YtegiffdlfpdbkaaGreatDoorRun8
import Derived.Test.YtegiffdlfpdbkaaGreatDoorTold
import Derived.Test.YtegiffdlfpdbkaaGreatDoorToldB
import Derived.Test.YtegiffdlfpdbkaaGreatDoorLiftT
import Derived.WalkKit
import Derived.WalkSpells
import Derived.WalkLawsBesides
import Derived.Lib.Hide
import Derived.BigQuiet
import Derived.Deep.QuietTactic
import Derived.Deep.RegionHeld3
import Derived.Deep.DeepCutAuto
import Derived.Maps.OwnSet
import Derived.Maps.OwnOps
import Derived.Maps.Views
import Derived.OwnWalk
import Derived.StringKeys
namespace Go.Proofs.YtegiffdlfpdbkaaGreatDoor
open Go.RowKit Go.Maps Go.WideMaps
set_option maxRecDepth 100000
set_option linter.unusedVariables false
set_option linter.unusedSimpArgs false

set_option maxHeartbeats 2000000 in
theorem errText_any (k : Int) (w : World) : Calls Tryz.prog 35 #[.int .i64 k] w fun e w' => e = .returned (.string (errN k)) ∧ w' = w := by
  by_cases h0 : k = 0
  · subst h0
    go_enter Tryz.func35, Tryz.ntmps35
    go_wp2_with fail
    go_ret
    exact ⟨rfl, rfl⟩
  by_cases h1 : k = 1
  · subst h1
    go_enter Tryz.func35, Tryz.ntmps35
    go_wp2_with fail
    go_ret
    exact ⟨rfl, rfl⟩
  by_cases h2 : k = 2
  · subst h2
    go_enter Tryz.func35, Tryz.ntmps35
    go_wp2_with fail
    go_ret
    exact ⟨rfl, rfl⟩
  by_cases h3 : k = 3
  · subst h3
    go_enter Tryz.func35, Tryz.ntmps35
    go_wp2_with fail
    go_ret
    exact ⟨rfl, rfl⟩
  by_cases h4 : k = 4
  · subst h4
    go_enter Tryz.func35, Tryz.ntmps35
    go_wp2_with fail
    go_ret
    exact ⟨rfl, rfl⟩
  by_cases h5 : k = 5
  · subst h5
    go_enter Tryz.func35, Tryz.ntmps35
    go_wp2_with fail
    go_ret
    exact ⟨rfl, rfl⟩
  by_cases h6 : k = 6
  · subst h6
    go_enter Tryz.func35, Tryz.ntmps35
    go_wp2_with fail
    go_ret
    exact ⟨rfl, rfl⟩
  by_cases h7 : k = 7
  · subst h7
    go_enter Tryz.func35, Tryz.ntmps35
    go_wp2_with fail
    go_ret
    exact ⟨rfl, rfl⟩
  by_cases h8 : k = 8
  · subst h8
    go_enter Tryz.func35, Tryz.ntmps35
    go_wp2_with fail
    go_ret
    exact ⟨rfl, rfl⟩
  by_cases h9 : k = 9
  · subst h9
    go_enter Tryz.func35, Tryz.ntmps35
    go_wp2_with fail
    go_ret
    exact ⟨rfl, rfl⟩
  have t : errN k = { data := #[69, 114, 114, 110, 111] } := by unfold errN; rw [if_neg h0, if_neg h1, if_neg h2, if_neg h3, if_neg h4, if_neg h5, if_neg h6, if_neg h7, if_neg h8, if_neg h9]
  rw [t]
  have b0 : (k == 0) = false := by simpa using h0
  have b1 : (k == 1) = false := by simpa using h1
  have b2 : (k == 2) = false := by simpa using h2
  have b3 : (k == 3) = false := by simpa using h3
  have b4 : (k == 4) = false := by simpa using h4
  have b5 : (k == 5) = false := by simpa using h5
  have b6 : (k == 6) = false := by simpa using h6
  have b7 : (k == 7) = false := by simpa using h7
  have b8 : (k == 8) = false := by simpa using h8
  have b9 : (k == 9) = false := by simpa using h9
  clear h0 h1 h2 h3 h4 h5 h6 h7 h8 h9
  go_enter Tryz.func35, Tryz.ntmps35
  go_wp2_with fail
  go_ret
  exact ⟨rfl, rfl⟩

set_option maxHeartbeats 4000000 in
theorem answer_any (w : World) (g b N : Nat) (d : Dsk) (s : ByteArray) (h : DeskAt w g b N d) (hs : s.size ≤ 3000) (hN : N ≤ 900000) (hE : ∀ w', But (fun k => k = g ∨ k = b) w w' → ReadT w' ∧ UnreadT w') (hD : ∀ w', But (fun k => k = g ∨ k = b) w w' → Door w') :
    Calls Tryz.prog 13 #[.pointer (some ⟨g, 0, none⟩), .string s] w fun e w' => e = .returned (.string (lineR d (wordsB s)).1) ∧ DeskAt w' g b (N + 1) (lineR d (wordsB s)).2 ∧ But (fun k => k = g ∨ k = b) w w' := by
  have HL := Lib.hid (line_any w g b N d s h hs hN hE)
  have HD := Lib.hid hD
  obtain ⟨R, hR⟩ : ∃ R, lineR d (wordsB s) = R := ⟨_, rfl⟩
  rw [hR] at HL ⊢
  obtain ⟨v, d2⟩ := R
  clear hR hE hD h
  go_enter Tryz.func13, Tryz.ntmps13
  go_wp2_with fail
  refine HL.out.mono ?_
  intro e w1 hp
  obtain ⟨hs1, hd1, hk1⟩ := hp
  have HK1 := Lib.hid hk1
  have HD1 := Lib.hid hd1
  have hdoor := HD.out w1 hk1
  have HDR := Lib.hid hdoor
  clear hdoor hd1 hk1
  rcases hs1 with rfl | ⟨s2, k, hk0, hki, rfl, hv⟩ | ⟨s2, rfl, hv⟩
  · go_wp2_with (go_at_call 34; refine (asNil _ _).mono ?_; rintro e w' ⟨rfl, rfl⟩)
    go_ret
    have hb : Below w1.heap.size w1 ((w1.alloc (.cells #[.nilIface] 78)).alloc (.cells #[.int .i64 0] 79)) := grow_alloc (grow_alloc (grow_refl _) _) _
    exact ⟨rfl, HD1.out.below hb, HK1.out.trans (below_but hb _) (fun _ _ h => h)⟩
  · have hk2 : v = errN k := hv
    subst hk2
    rw [errV_mk hk0]
    have hbA : Below w1.heap.size w1 ((w1.alloc (.cells #[.nilIface] 78)).alloc (.cells #[.int .i64 0] 79)) := grow_alloc (grow_alloc (grow_refl _) _) _
    have HBA := Lib.hid hbA
    have HM := Lib.hid (asB_miss k w1.heap.size _ (HDR.out.below hbA))
    obtain ⟨WB, hWB⟩ : ∃ WB, (((((w1.alloc (.cells #[.nilIface] 78)).alloc (.cells #[.int .i64 0] 79)).alloc (.cells #[.pointer (some ⟨w1.heap.size, 0, none⟩)] 81)).alloc (.cells #[.pointer (some ⟨10, 81, none⟩), .pointer (some ⟨((w1.alloc (.cells #[.nilIface] 78)).alloc (.cells #[.int .i64 0] 79)).heap.size, 0, none⟩), .int .u64 150] 99)).alloc (.cells #[.pointer (some ⟨10, 81, none⟩), .pointer (some ⟨((w1.alloc (.cells #[.nilIface] 78)).alloc (.cells #[.int .i64 0] 79)).heap.size, 0, none⟩), .int .u64 150] 99)) = WB := ⟨_, rfl⟩
    have hbB : Below w1.heap.size w1 WB := by rw [← hWB]; exact grow_alloc (grow_alloc (grow_alloc hbA _) _) _
    have hx : Box WB (w1.heap.size + 1) 79 #[.int .i64 0] := by
      rw [← hWB]
      have h1 := (((Box.new (w1.alloc (.cells #[.nilIface] 78)) 79 #[.int .i64 0]).alloc_ (.cells #[.pointer (some ⟨w1.heap.size, 0, none⟩)] 81)).alloc_ (.cells #[.pointer (some ⟨10, 81, none⟩), .pointer (some ⟨((w1.alloc (.cells #[.nilIface] 78)).alloc (.cells #[.int .i64 0] 79)).heap.size, 0, none⟩), .int .u64 150] 99)).alloc_ (.cells #[.pointer (some ⟨10, 81, none⟩), .pointer (some ⟨((w1.alloc (.cells #[.nilIface] 78)).alloc (.cells #[.int .i64 0] 79)).heap.size, 0, none⟩), .int .u64 150] 99)
      rw [show (w1.alloc (.cells #[.nilIface] 78)).heap.size = w1.heap.size + 1 by simp] at h1
      exact h1
    rw [hWB] at HM
    have HX := Lib.hid hx
    have HBB := Lib.hid hbB
    have HWB := Lib.hid hWB
    clear hbA hWB hbB hx
    have HH := Lib.hid (as_hit k ⟨w1.heap.size + 1, 0, none⟩ (.int .i64 0) WB (HDR.out.below HBB.out) (by rw [HX.out.cell 0]; rfl) (HX.out.frozen 0))
    go_wp2_with fail
    refine HM.out.mono ?_
    rintro e w' ⟨rfl, hw'⟩
    obtain rfl : WB = w' := hw'.symm
    go_wp2_with fail
    refine HH.out.mono ?_
    rintro e w' ⟨rfl, hw'⟩
    have hc : w'.cell? ⟨w1.heap.size + 1, 0, none⟩ = some (.int .i64 k) := by
      have h1 := (((((HX.out.alloc_ (.cells #[.pointer (some ⟨w1.heap.size + 1, 0, none⟩)] 82)).alloc_ (.cells #[.pointer (some ⟨10, 82, none⟩), .pointer (some ⟨WB.heap.size, 0, none⟩), .int .u64 150] 99)).alloc_ (.cells #[.pointer (some ⟨10, 82, none⟩), .pointer (some ⟨WB.heap.size, 0, none⟩), .int .u64 150] 99)).alloc_ (.cells #[.int .i64 k] 79)).set_ 0 (.int .i64 k)).cell 0
      rw [hw']
      exact h1
    have hb2 : Below w1.heap.size w1 w' := by
      rw [hw']
      exact grow_set (grow_alloc (grow_alloc (grow_alloc (grow_alloc HBB.out _) _) _) _) (by show w1.heap.size ≤ w1.heap.size + 1; omega) _
    have HB2 := Lib.hid hb2
    clear hw' hb2
    go_wp2_with fail
    refine (errText_any k _).mono ?_
    rintro e w2 ⟨rfl, rfl⟩
    go_wp2_with fail
    go_ret
    exact ⟨rfl, HD1.out.below HB2.out, HK1.out.trans (below_but HB2.out _) (fun _ _ h => h)⟩
  · have hk2 : v = tBad := hv
    subst hk2
    have hbA : Below w1.heap.size w1 ((w1.alloc (.cells #[.nilIface] 78)).alloc (.cells #[.int .i64 0] 79)) := grow_alloc (grow_alloc (grow_refl _) _) _
    have hx := (Box.new w1 78 #[.nilIface]).alloc_ (.cells #[.int .i64 0] 79)
    have HM := Lib.hid (asB_hit (.iface 79 (.int .i64 2)) w1.heap.size .nilIface _ (HDR.out.below hbA) (by rw [hx.cell 0]; rfl) (hx.frozen 0) rfl)
    clear hbA hx
    go_wp2_with fail
    refine HM.out.mono ?_
    rintro e w' ⟨rfl, hw'⟩
    have hb2 : Below w1.heap.size w1 w' := by
      rw [hw']
      exact grow_set (grow_alloc (grow_alloc (grow_alloc (grow_alloc (grow_alloc (grow_alloc (grow_refl _) _) _) _) _) _) _) (Nat.le_refl _) _
    have HB2 := Lib.hid hb2
    clear hw' hb2 HM
    go_wp2_with fail
    go_ret
    exact ⟨rfl, HD1.out.below HB2.out, HK1.out.trans (below_but HB2.out _) (fun _ _ h => h)⟩

end Go.Proofs.YtegiffdlfpdbkaaGreatDoor
