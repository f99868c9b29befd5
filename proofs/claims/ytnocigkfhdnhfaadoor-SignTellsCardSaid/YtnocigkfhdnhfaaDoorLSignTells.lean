/- SignTells: what is signed, and what is right, is what the reference says. The listed package variables hold what the program's text lays. -/
import Derived.Test.YtnocigkfhdnhfaaDoorRows
import Derived.Test.YtnocigkfhdnhfaaDoorOpen
import Derived.Test.YtnocigkfhdnhfaaDoorOpI
import Derived.Test.YtnocigkfhdnhfaaDoorRefS2
import Derived.Test.YtnocigkfhdnhfaaDoorRefK
import Derived.Test.YtnocigkfhdnhfaaDoorSign
import Derived.Test.YtnocigkfhdnhfaaDoorSign2
import Derived.Test.YtnocigkfhdnhfaaDoorSgEq
import Derived.Test.YtnocigkfhdnhfaaDoorFoot
import Derived.Test.YtnocigkfhdnhfaaDoorTold
import Derived.Test.YtnocigkfhdnhfaaDoorBds
import Derived.Test.YtnocigkfhdnhfaaDoorLiftD
import Derived.Test.YtnocigkfhdnhfaaDoorLiftT
import Derived.WalkKit
import Derived.WalkSpells
import Derived.Lib.Hide
import Derived.Deep.RegionHeld3
import Derived.Deep.DeepCutAuto
namespace Go.Proofs.YtnocigkfhdnhfaaDoor
open Go.ChangeShapes Go.WideShapes Go.ChangeAt Go.RowKit
set_option linter.unusedVariables false
set_option maxRecDepth 100000

theorem TabTD_below {w w' : World} (h : TabTD w) (hb : Below w.heap.size w w') : TabTD w' := ⟨h.1.below hb, h.2.below hb⟩
theorem signE_bd (q : Int) (n : ByteArray) (v : Int) (c : ByteArray) (p a : Int) : I64 (signE q n v c p a) := by
  unfold signE; split
  · exact rightE_bd _ _ _ _
  · exact imgE_bd _ _ _

theorem But.set5 (w : World) (z : Nat) (v0 v1 v2 v3 v4 : Value) : But (fun k => k = z) w (((((w.setCell ⟨z, 0, none⟩ v0).setCell ⟨z, 1, none⟩ v1).setCell ⟨z, 2, none⟩ v2).setCell ⟨z, 3, none⟩ v3).setCell ⟨z, 4, none⟩ v4) :=
  (((((But.refl (fun k => k = z) w).setCell (p := ⟨z, 0, none⟩) (Or.inl rfl) v0).setCell (p := ⟨z, 1, none⟩) (Or.inl rfl) v1).setCell (p := ⟨z, 2, none⟩) (Or.inl rfl) v2).setCell (p := ⟨z, 3, none⟩) (Or.inl rfl) v3).setCell (p := ⟨z, 4, none⟩) (Or.inl rfl) v4

set_option maxHeartbeats 4000000 in
theorem signTells_walk (w : World) (x k : Int) (n : ByteArray) (v : Int) (c : ByteArray) (q : Int) (n2 : ByteArray) (v2 : Int) (c2 : ByteArray) (p2 a2 : Int) (ix : I64 x) (ik : I64 k) (iv : I64 v) (hn : n.size ≤ 140737488351232) (hc : c.size ≤ 140737488351232) (iq : I64 q) (iv2 : I64 v2) (hn2 : n2.size ≤ 140737488351232) (hc2 : c2.size ≤ 140737488351232) (ip2 : I64 p2) (ia2 : I64 a2) (hg : TabTD w) :
    Calls Tryd.prog 11 #[.int .i64 x, .int .i64 k, .agg #[.string n, .int .i64 v, .string c], .int .i64 q, .agg #[.string n2, .int .i64 v2, .string c2, .int .i64 p2, .int .i64 a2]] w fun e w' => e = .returned (.bool true) ∧ Below w.heap.size w w' := by
  have HG := Lib.hid hg
  obtain ⟨G, hGG⟩ : ∃ G, signE q n2 v2 c2 p2 a2 = G := ⟨_, rfl⟩
  have HGG := Lib.hid hGG
  have HGI : Hid (I64 G) := Lib.hid (by rw [← hGG]; exact signE_bd _ _ _ _ _ _)
  have HI := Lib.hid (Box.new w 26 #[.string n, .int .i64 v, .string c])
  have HQ0 := Lib.hid (Box.new (w.alloc (.cells #[.string n, .int .i64 v, .string c] 26)) 53 #[.string n2, .int .i64 v2, .string c2, .int .i64 p2, .int .i64 a2])
  have e2 : (w.alloc (.cells #[.string n, .int .i64 v, .string c] 26)).heap.size = w.heap.size + 1 := by simp
  rw [e2] at HQ0
  have HIQ := Lib.hid (HI.out.alloc_ (.cells #[.string n2, .int .i64 v2, .string c2, .int .i64 p2, .int .i64 a2] 53))
  have fz := fun w => eqSg ⟨#[]⟩ 0 ⟨#[]⟩ 0 0 (by decide) (by decide) (i64_small (by decide) (by decide)) (i64_small (by decide) (by decide)) (i64_small (by decide) (by decide)) w
  have gz := fun o p w => guardSg (.string ⟨#[]⟩) (.int .i64 0) (.string ⟨#[]⟩) (.int .i64 0) (.int .i64 0) (.string ⟨#[]⟩) (.int .i64 0) (.string ⟨#[]⟩) (.int .i64 0) (.int .i64 0) .eql o p w
  clear hg hGG e2
  obtain ⟨E, hE⟩ : ∃ E, imgE n v c = E := ⟨_, rfl⟩
  have HE := Lib.hid hE
  by_cases h0 : E = 0
  · have him : imgE n v c = 0 := by rw [hE, h0]
    have HN := Lib.hid him
    cases ho : (okSecret x && okSecret k)
    rotate_left
    · have hxk : okSecret x = true ∧ okSecret k = true := by simpa using ho
      have HXK := Lib.hid hxk
      have hsg : sgE x k 0 = 0 := by unfold sgE okSign; rw [ho]; rfl
      have HSG := Lib.hid hsg
      have HZS := Lib.hid (lineS_small him)
      obtain ⟨M, hM⟩ : ∃ M, imgM n v c = M := ⟨_, rfl⟩
      have HM : Hid (textM (lineS n v c).data.toList = M) := Lib.hid hM
      have HMM := Lib.hid hM
      have HMO : Hid (okM M = true) := Lib.hid (by rw [← hM]; exact imgM_ok _ _ _)
      obtain ⟨P, hP⟩ : ∃ P, pwI 64 k = P := ⟨_, rfl⟩
      obtain ⟨S, hS⟩ : ∃ S, sealA x k M = S := ⟨_, rfl⟩
      have HP := Lib.hid hP
      have HS := Lib.hid hS
      have HPI : Hid (I64 P) := Lib.hid (by rw [← hP]; exact ⟨by have := pwI_bd 64 k; omega, by have := pwI_bd 64 k; omega⟩)
      have HSI : Hid (I64 S) := Lib.hid (by rw [← hS]; exact ⟨by have := sealA_bd x k M; omega, by have := sealA_bd x k M; omega⟩)
      clear hE him ho hsg hxk hM hP hS
      subst h0
      go_enter Tryd.func11, Tryd.ntmps11
      go_wp2_with fail
      refine (rImage_any n v c _ (by omega) (by omega)).mono ?_
      rintro e w1 ⟨rfl, hb1⟩
      rw [HE.out]
      have HI1 := Lib.hid (HIQ.out.below hb1)
      have HQ1 := Lib.hid (HQ0.out.below hb1)
      have hbw1 : Below w.heap.size w w1 := grow_step (grow_alloc (grow_alloc (grow_refl _) _) _) hb1
      clear hb1 HI HIQ HQ0
      go_wp2_with fail
      refine (rSigned_any x k 0 _).mono ?_
      rintro e w1' ⟨rfl, rfl⟩
      rw [HSG.out]
      have BZ : Box (w1.alloc (.cells #[.string ⟨#[]⟩, .int .i64 0, .string ⟨#[]⟩, .int .i64 0, .int .i64 0] 53)).drew w1.heap.size 53 #[.string ⟨#[]⟩, .int .i64 0, .string ⟨#[]⟩, .int .i64 0, .int .i64 0] := Box.new w1 53 #[.string ⟨#[]⟩, .int .i64 0, .string ⟨#[]⟩, .int .i64 0, .int .i64 0]
      have BI : Box (w1.alloc (.cells #[.string ⟨#[]⟩, .int .i64 0, .string ⟨#[]⟩, .int .i64 0, .int .i64 0] 53)).drew w.heap.size 26 #[.string n, .int .i64 v, .string c] := HI1.out.alloc_ (.cells #[.string ⟨#[]⟩, .int .i64 0, .string ⟨#[]⟩, .int .i64 0, .int .i64 0] 53)
      have BQ : Box (w1.alloc (.cells #[.string ⟨#[]⟩, .int .i64 0, .string ⟨#[]⟩, .int .i64 0, .int .i64 0] 53)).drew (w.heap.size + 1) 53 #[.string n2, .int .i64 v2, .string c2, .int .i64 p2, .int .i64 a2] := HQ1.out.alloc_ (.cells #[.string ⟨#[]⟩, .int .i64 0, .string ⟨#[]⟩, .int .i64 0, .int .i64 0] 53)
      have BB : Below w.heap.size w (w1.alloc (.cells #[.string ⟨#[]⟩, .int .i64 0, .string ⟨#[]⟩, .int .i64 0, .int .i64 0] 53)).drew := grow_drew (grow_alloc hbw1 _)
      have cI := BI.cell
      have lI := BI.lt
      have cZ := BZ.cell
      have lZ := BZ.lt
      have fZ := BZ.frozen
      have HLZ := Lib.hid HQ1.out.lt
      clear HQ1 HI1
      go_upto_region 6 with fail
      go_cut [12] (fun pz wx => pz = .pointer (some ⟨w1.heap.size, 0, none⟩) ∧ Hid (Box wx w1.heap.size 53 #[.string n, .int .i64 v, .string c, .int .i64 P, .int .i64 S]) ∧ Hid (Box wx w.heap.size 26 #[.string n, .int .i64 v, .string c]) ∧ Hid (Box wx (w.heap.size + 1) 53 #[.string n2, .int .i64 v2, .string c2, .int .i64 p2, .int .i64 a2]) ∧ Hid (Below w.heap.size w wx))
      case first =>
        go_region_with (first
          | (go_at_call 42; refine (rLine_any n v c _ HZS.out.1 HZS.out.2.1 HZS.out.2.2.1 HZS.out.2.2.2.1).mono ?_; rintro e w6 ⟨rfl, hb6⟩; have BI : Box w6 w.heap.size 26 #[.string n, .int .i64 v, .string c] := BI.below hb6; have BQ : Box w6 (w.heap.size + 1) 53 #[.string n2, .int .i64 v2, .string c2, .int .i64 p2, .int .i64 a2] := BQ.below hb6; have BZ := BZ.below hb6; have BB := grow_step BB hb6; have cI := BI.cell; have lI := BI.lt; have cZ := BZ.cell; have lZ := BZ.lt; have fZ := BZ.frozen)
          | (go_at_call 41; refine (rText_any (lineS n v c) _ HZS.out.2.2.2.2).mono ?_; rintro e w6 ⟨rfl, rfl⟩; rw [HM.out])
          | (go_at_call 40; refine (rSign_any x k M _ HXK.out.1 HXK.out.2 HMO.out).mono ?_; rintro e w6 ⟨rfl, hb6⟩; rw [HP.out, HS.out]; have BI : Box w6 w.heap.size 26 #[.string n, .int .i64 v, .string c] := BI.below hb6; have BQ : Box w6 (w.heap.size + 1) 53 #[.string n2, .int .i64 v2, .string c2, .int .i64 p2, .int .i64 a2] := BQ.below hb6; have BZ := BZ.below hb6; have BB := grow_step BB hb6; have cI := BI.cell; have lI := BI.lt; have cZ := BZ.cell; have lZ := BZ.lt; have fZ := BZ.frozen))
        all_goals (go_wp2_with fail; go_meet; exact ⟨rfl, Lib.hid (BZ.fill5 _ _ _ _ _), Lib.hid (BI.but (But.set5 _ _ _ _ _ _ _) (by have := HLZ.out; omega)), Lib.hid (BQ.but (But.set5 _ _ _ _ _ _ _) (by have := HLZ.out; omega)), Lib.hid (BB.trans ((But.set5 _ _ _ _ _ _ _).below BB.size (fun k hk => by have := HLZ.out; omega)))⟩)
      case rest =>
        obtain ⟨rfl, HZ, HI2, HQ2, HB2⟩ := hcut
        clear BZ BI BQ BB cI lI cZ lZ fZ
        have cI := HI2.out.cell
        have lI := HI2.out.lt
        go_wp2_with fail
        refine (signMake_yes x k n v c M _ (by omega) (by omega) HN.out HMM.out HXK.out.1 HXK.out.2 (HG.out.1.below HB2.out)).mono ?_
        rintro e w2 ⟨rfl, hb⟩
        rw [HP.out, HS.out]
        have HZ3 := Lib.hid ((HZ.out.below hb).alloc_ (.cells #[.string n, .int .i64 v, .string c, .int .i64 P, .int .i64 S] 53))
        have HQ3 := Lib.hid ((HQ2.out.below hb).alloc_ (.cells #[.string n, .int .i64 v, .string c, .int .i64 P, .int .i64 S] 53))
        have HY3 := Lib.hid (Box.new w2 53 #[.string n, .int .i64 v, .string c, .int .i64 P, .int .i64 S])
        have hbw3 : Below w.heap.size w (w2.alloc (.cells #[.string n, .int .i64 v, .string c, .int .i64 P, .int .i64 S] 53)) := grow_alloc (grow_step HB2.out hb) _
        clear hb HZ HQ2 HI2 cI lI HB2 hbw1
        go_wp2_with fail
        refine (error_any 0 0 _ (HG.out.2.below hbw3) (i64_small (by decide) (by decide))).mono ?_
        rintro e w4 ⟨rfl, hb⟩
        have hbw4 : Below w.heap.size w w4 := grow_step hbw3 hb
        have Z4 := HZ3.out.below hb
        have Y4 := HY3.out.below hb
        have HQ4 := Lib.hid (HQ3.out.below hb)
        have cZ := Z4.cell
        have lZ := Z4.lt
        have cY := Y4.cell
        have lY := Y4.lt
        have fz2 := fun w => eqSg n v c P S hn hc iv HPI.out HSI.out w
        have gz2 := fun o p w => guardSg (.string n) (.int .i64 v) (.string c) (.int .i64 P) (.int .i64 S) (.string n) (.int .i64 v) (.string c) (.int .i64 P) (.int .i64 S) .eql o p w
        clear hb HZ3 HY3 HQ3 hbw3
        go_wp2_with fail
        have Q5 : Box w4.drew (w.heap.size + 1) 53 #[.string n2, .int .i64 v2, .string c2, .int .i64 p2, .int .i64 a2] := HQ4.out
        have hbw5 := grow_drew hbw4
        clear cZ lZ cY lY Z4 Y4 HQ4
        go_region_held3 (fun w' => (∀ i, w'.cell? ⟨w.heap.size + 1, i, none⟩ = (#[.string n2, .int .i64 v2, .string c2, .int .i64 p2, .int .i64 a2] : Array Value)[i]?) ∧ Box w' (w.heap.size + 1) 53 #[.string n2, .int .i64 v2, .string c2, .int .i64 p2, .int .i64 a2] ∧ Below w.heap.size w w')
          (first
            | exact ⟨E1.cell, E1, E3⟩
            | exact ⟨Q5.cell, Q5, hbw5⟩
            | (go_keep; done))
          (first
            | (go_at_call 37; go_split_ands; have p1 : Box _ (w.heap.size + 1) 53 #[.string n2, .int .i64 v2, .string c2, .int .i64 p2, .int .i64 a2] := (by assumption); have p3 : Below w.heap.size w _ := (by assumption); refine (signCheck_any q n2 v2 c2 p2 a2 _ (by omega) (by omega) (HG.out.1.below p3)).mono ?_; rintro e w6 ⟨rfl, hb6⟩; rw [HGG.out]; have E1 := p1.below hb6; have E3 := grow_step p3 hb6; clear p1 p3)
            | (go_at_call 44; go_split_ands; have p1 : Box _ (w.heap.size + 1) 53 #[.string n2, .int .i64 v2, .string c2, .int .i64 p2, .int .i64 a2] := (by assumption); have p3 : Below w.heap.size w _ := (by assumption); refine (rSealed_any q n2 v2 c2 p2 a2 _ (by omega) (by omega)).mono ?_; rintro e w6 ⟨rfl, hb6⟩; rw [HGG.out]; have E1 := p1.below hb6; have E3 := grow_step p3 hb6; clear p1 p3)
            | (go_at_call 16; go_split_ands; have p1 : Box _ (w.heap.size + 1) 53 #[.string n2, .int .i64 v2, .string c2, .int .i64 p2, .int .i64 a2] := (by assumption); have p3 : Below w.heap.size w _ := (by assumption); refine (error_any G G _ (HG.out.2.below p3) HGI.out).mono ?_; rintro e w6 ⟨rfl, hb6⟩; have E1 := p1.below hb6; have E3 := grow_step p3 hb6; clear p1 p3))
        go_wp2_with fail
        go_ret
        exact ⟨by simp, E3⟩
    have HO := Lib.hid ho
    have hsg : sgE x k 0 = 1 := by unfold sgE okSign; rw [ho]; rfl
    have HSG := Lib.hid hsg
    clear hE him ho hsg
    subst h0
    go_enter Tryd.func11, Tryd.ntmps11
    go_wp2_with fail
    refine (rImage_any n v c _ (by omega) (by omega)).mono ?_
    rintro e w1 ⟨rfl, hb1⟩
    rw [HE.out]
    have HI1 := Lib.hid (HIQ.out.below hb1)
    have HQ1 := Lib.hid (HQ0.out.below hb1)
    have hbw1 : Below w.heap.size w w1 := grow_step (grow_alloc (grow_alloc (grow_refl _) _) _) hb1
    clear hb1 HI HIQ HQ0
    go_wp2_with fail
    refine (rSigned_any x k 0 _).mono ?_
    rintro e w1' ⟨rfl, rfl⟩
    rw [HSG.out]
    have HZ := Lib.hid (Box.new w1 53 #[.string ⟨#[]⟩, .int .i64 0, .string ⟨#[]⟩, .int .i64 0, .int .i64 0])
    have HI2 := Lib.hid (HI1.out.alloc_ (.cells #[.string ⟨#[]⟩, .int .i64 0, .string ⟨#[]⟩, .int .i64 0, .int .i64 0] 53))
    have HQ2 := Lib.hid (HQ1.out.alloc_ (.cells #[.string ⟨#[]⟩, .int .i64 0, .string ⟨#[]⟩, .int .i64 0, .int .i64 0] 53))
    have hbw2 : Below w.heap.size w (w1.alloc (.cells #[.string ⟨#[]⟩, .int .i64 0, .string ⟨#[]⟩, .int .i64 0, .int .i64 0] 53)) := grow_alloc hbw1 _
    have cI := HI2.out.cell
    have lI := HI2.out.lt
    clear HI1 HQ1
    go_wp2_with fail
    refine (signMake_bad x k n v c _ (by omega) (by omega) HN.out HO.out (HG.out.1.below hbw2)).mono ?_
    rintro e w2 ⟨rfl, hb⟩
    have HZ3 := Lib.hid ((HZ.out.below hb).alloc_ (.cells #[.string ⟨#[]⟩, .int .i64 0, .string ⟨#[]⟩, .int .i64 0, .int .i64 0] 53))
    have HQ3 := Lib.hid ((HQ2.out.below hb).alloc_ (.cells #[.string ⟨#[]⟩, .int .i64 0, .string ⟨#[]⟩, .int .i64 0, .int .i64 0] 53))
    have HY3 := Lib.hid (Box.new w2 53 #[.string ⟨#[]⟩, .int .i64 0, .string ⟨#[]⟩, .int .i64 0, .int .i64 0])
    have hbw3 : Below w.heap.size w (w2.alloc (.cells #[.string ⟨#[]⟩, .int .i64 0, .string ⟨#[]⟩, .int .i64 0, .int .i64 0] 53)) := grow_alloc (grow_step hbw2 hb) _
    clear hb HZ HQ2 HI2 cI lI hbw2 hbw1
    go_wp2_with fail
    refine (error_any 1 1 _ (HG.out.2.below hbw3) (i64_small (by decide) (by decide))).mono ?_
    rintro e w4 ⟨rfl, hb⟩
    have hbw4 : Below w.heap.size w w4 := grow_step hbw3 hb
    have Z4 := HZ3.out.below hb
    have Y4 := HY3.out.below hb
    have HQ4 := Lib.hid (HQ3.out.below hb)
    have cZ := Z4.cell
    have lZ := Z4.lt
    have cY := Y4.cell
    have lY := Y4.lt
    clear hb HZ3 HY3 HQ3 hbw3
    go_wp2_with fail
    have Q5 : Box w4.drew (w.heap.size + 1) 53 #[.string n2, .int .i64 v2, .string c2, .int .i64 p2, .int .i64 a2] := HQ4.out
    have hbw5 := grow_drew hbw4
    clear cZ lZ cY lY Z4 Y4 HQ4
    go_region_held3 (fun w' => (∀ i, w'.cell? ⟨w.heap.size + 1, i, none⟩ = (#[.string n2, .int .i64 v2, .string c2, .int .i64 p2, .int .i64 a2] : Array Value)[i]?) ∧ Box w' (w.heap.size + 1) 53 #[.string n2, .int .i64 v2, .string c2, .int .i64 p2, .int .i64 a2] ∧ Below w.heap.size w w')
      (first
        | exact ⟨E1.cell, E1, E3⟩
        | exact ⟨Q5.cell, Q5, hbw5⟩
        | (go_keep; done))
      (first
        | (go_at_call 37; go_split_ands; have p1 : Box _ (w.heap.size + 1) 53 #[.string n2, .int .i64 v2, .string c2, .int .i64 p2, .int .i64 a2] := (by assumption); have p3 : Below w.heap.size w _ := (by assumption); refine (signCheck_any q n2 v2 c2 p2 a2 _ (by omega) (by omega) (HG.out.1.below p3)).mono ?_; rintro e w6 ⟨rfl, hb6⟩; rw [HGG.out]; have E1 := p1.below hb6; have E3 := grow_step p3 hb6; clear p1 p3)
        | (go_at_call 44; go_split_ands; have p1 : Box _ (w.heap.size + 1) 53 #[.string n2, .int .i64 v2, .string c2, .int .i64 p2, .int .i64 a2] := (by assumption); have p3 : Below w.heap.size w _ := (by assumption); refine (rSealed_any q n2 v2 c2 p2 a2 _ (by omega) (by omega)).mono ?_; rintro e w6 ⟨rfl, hb6⟩; rw [HGG.out]; have E1 := p1.below hb6; have E3 := grow_step p3 hb6; clear p1 p3)
        | (go_at_call 16; go_split_ands; have p1 : Box _ (w.heap.size + 1) 53 #[.string n2, .int .i64 v2, .string c2, .int .i64 p2, .int .i64 a2] := (by assumption); have p3 : Below w.heap.size w _ := (by assumption); refine (error_any G G _ (HG.out.2.below p3) HGI.out).mono ?_; rintro e w6 ⟨rfl, hb6⟩; have E1 := p1.below hb6; have E3 := grow_step p3 hb6; clear p1 p3))
    go_wp2_with fail
    go_ret
    exact ⟨by simp, E3⟩
  · have t : (E == 0) = false := by simp [h0]
    have HN := Lib.hid (show imgE n v c ≠ 0 by rw [hE]; exact h0)
    have HEI : Hid (I64 E) := Lib.hid (by rw [← hE]; exact imgE_bd _ _ _)
    clear hE h0
    go_enter Tryd.func11, Tryd.ntmps11
    go_wp2_with fail
    refine (rImage_any n v c _ (by omega) (by omega)).mono ?_
    rintro e w1 ⟨rfl, hb1⟩
    rw [HE.out]
    have HI1 := Lib.hid (HIQ.out.below hb1)
    have HQ1 := Lib.hid (HQ0.out.below hb1)
    have hbw1 : Below w.heap.size w w1 := grow_step (grow_alloc (grow_alloc (grow_refl _) _) _) hb1
    clear hb1 HI HIQ HQ0
    have HZ := Lib.hid (Box.new w1 53 #[.string ⟨#[]⟩, .int .i64 0, .string ⟨#[]⟩, .int .i64 0, .int .i64 0])
    have HI2 := Lib.hid (HI1.out.alloc_ (.cells #[.string ⟨#[]⟩, .int .i64 0, .string ⟨#[]⟩, .int .i64 0, .int .i64 0] 53))
    have HQ2 := Lib.hid (HQ1.out.alloc_ (.cells #[.string ⟨#[]⟩, .int .i64 0, .string ⟨#[]⟩, .int .i64 0, .int .i64 0] 53))
    have hbw2 : Below w.heap.size w (w1.alloc (.cells #[.string ⟨#[]⟩, .int .i64 0, .string ⟨#[]⟩, .int .i64 0, .int .i64 0] 53)) := grow_alloc hbw1 _
    have cI := HI2.out.cell
    have lI := HI2.out.lt
    clear HI1 HQ1
    go_wp2_with fail
    refine (signMake_no x k n v c _ (by omega) (by omega) HN.out).mono ?_
    rintro e w2 ⟨rfl, hb⟩
    rw [HE.out]
    have HZ3 := Lib.hid ((HZ.out.below hb).alloc_ (.cells #[.string ⟨#[]⟩, .int .i64 0, .string ⟨#[]⟩, .int .i64 0, .int .i64 0] 53))
    have HQ3 := Lib.hid ((HQ2.out.below hb).alloc_ (.cells #[.string ⟨#[]⟩, .int .i64 0, .string ⟨#[]⟩, .int .i64 0, .int .i64 0] 53))
    have HY3 := Lib.hid (Box.new w2 53 #[.string ⟨#[]⟩, .int .i64 0, .string ⟨#[]⟩, .int .i64 0, .int .i64 0])
    have hbw3 : Below w.heap.size w (w2.alloc (.cells #[.string ⟨#[]⟩, .int .i64 0, .string ⟨#[]⟩, .int .i64 0, .int .i64 0] 53)) := grow_alloc (grow_step hbw2 hb) _
    clear hb HZ HQ2 HI2 cI lI hbw2 hbw1
    go_wp2_with fail
    refine (error_any E E _ (HG.out.2.below hbw3) HEI.out).mono ?_
    rintro e w4 ⟨rfl, hb⟩
    have hbw4 : Below w.heap.size w w4 := grow_step hbw3 hb
    have Z4 := HZ3.out.below hb
    have Y4 := HY3.out.below hb
    have HQ4 := Lib.hid (HQ3.out.below hb)
    have cZ := Z4.cell
    have lZ := Z4.lt
    have cY := Y4.cell
    have lY := Y4.lt
    clear hb HZ3 HY3 HQ3 hbw3
    go_wp2_with fail
    have Q5 : Box w4.drew (w.heap.size + 1) 53 #[.string n2, .int .i64 v2, .string c2, .int .i64 p2, .int .i64 a2] := HQ4.out
    have hbw5 := grow_drew hbw4
    clear cZ lZ cY lY Z4 Y4 HQ4
    go_region_held3 (fun w' => (∀ i, w'.cell? ⟨w.heap.size + 1, i, none⟩ = (#[.string n2, .int .i64 v2, .string c2, .int .i64 p2, .int .i64 a2] : Array Value)[i]?) ∧ Box w' (w.heap.size + 1) 53 #[.string n2, .int .i64 v2, .string c2, .int .i64 p2, .int .i64 a2] ∧ Below w.heap.size w w')
      (first
        | exact ⟨E1.cell, E1, E3⟩
        | exact ⟨Q5.cell, Q5, hbw5⟩
        | (go_keep; done))
      (first
        | (go_at_call 37; go_split_ands; have p1 : Box _ (w.heap.size + 1) 53 #[.string n2, .int .i64 v2, .string c2, .int .i64 p2, .int .i64 a2] := (by assumption); have p3 : Below w.heap.size w _ := (by assumption); refine (signCheck_any q n2 v2 c2 p2 a2 _ (by omega) (by omega) (HG.out.1.below p3)).mono ?_; rintro e w6 ⟨rfl, hb6⟩; rw [HGG.out]; have E1 := p1.below hb6; have E3 := grow_step p3 hb6; clear p1 p3)
        | (go_at_call 44; go_split_ands; have p1 : Box _ (w.heap.size + 1) 53 #[.string n2, .int .i64 v2, .string c2, .int .i64 p2, .int .i64 a2] := (by assumption); have p3 : Below w.heap.size w _ := (by assumption); refine (rSealed_any q n2 v2 c2 p2 a2 _ (by omega) (by omega)).mono ?_; rintro e w6 ⟨rfl, hb6⟩; rw [HGG.out]; have E1 := p1.below hb6; have E3 := grow_step p3 hb6; clear p1 p3)
        | (go_at_call 16; go_split_ands; have p1 : Box _ (w.heap.size + 1) 53 #[.string n2, .int .i64 v2, .string c2, .int .i64 p2, .int .i64 a2] := (by assumption); have p3 : Below w.heap.size w _ := (by assumption); refine (error_any G G _ (HG.out.2.below p3) HGI.out).mono ?_; rintro e w6 ⟨rfl, hb6⟩; have E1 := p1.below hb6; have E3 := grow_step p3 hb6; clear p1 p3))
    go_wp2_with fail
    go_ret
    exact ⟨by simp, E3⟩

set_option maxRecDepth 100000 in
theorem signTells_walks (H : Type) (enc : TypeId × Value → H) : WalksD enc Tryd.prog TabTD 11 Tryd.f11 := by
  intro W base args ds p hval hA hlt hsz hsh hdoor
  have hsz0 := hsz
  rw [Tryd.params11] at hA hval
  obtain ⟨v0, vs0, d0, ds0, p0, q0, hargs, rfl, rfl, h0, r0⟩ := trodAll_cons hA
  obtain ⟨v1, vs1, d1, ds1, p1, q1, rfl, rfl, rfl, h1, r1⟩ := trodAll_cons r0
  obtain ⟨v2, vs2, d2, ds2, p2, q2, rfl, rfl, rfl, h2, r2⟩ := trodAll_cons r1
  obtain ⟨v3, vs3, d3, ds3, p3, q3, rfl, rfl, rfl, h3, r3⟩ := trodAll_cons r2
  obtain ⟨v4, vs4, d4, ds4, p4, q4, rfl, rfl, rfl, h4, r4⟩ := trodAll_cons r3
  obtain ⟨rfl, rfl, rfl⟩ := trodAll_nil r4
  obtain rfl : args = #[v0, v1, v2, v3, v4] := by cases args; simp_all
  obtain ⟨a0, rfl, w0⟩ := op_int (hval 0 3 v0 rfl rfl) h0
  obtain ⟨a1, rfl, w1⟩ := op_int (hval 1 3 v1 rfl rfl) h1
  obtain ⟨a2, b2, c2, rfl, w2, u2, z2⟩ := op_image (hval 2 26 v2 rfl rfl) h2 (w_each hsz 2 26 _ (by rw [Tryd.params11]; rfl) rfl)
  obtain ⟨a3, rfl, w3⟩ := op_int (hval 3 3 v3 rfl rfl) h3
  obtain ⟨a4, b4, c4, p4_, q4_, rfl, w4, u4, z4, y4, t4⟩ := op_signed (hval 4 53 v4 rfl rfl) h4 (w_each hsz 4 53 _ (by rw [Tryd.params11]; rfl) rfl)
  exact signTells_walk W a0 a1 a2 b2 c2 a3 a4 b4 c4 p4_ q4_ w0 w1 w2 u2 z2 w3 w4 u4 z4 y4 t4 hdoor

set_option maxRecDepth 100000 in
theorem signTells_lifted (os : Os) (started : os.Started) (H : Type) (enc : TypeId × Value → H) :
    ReturnsInHanded {} Tryd.checked os 11 .any (fun w args => (Rows.signTellsSpec.pre enc Tryd.checked.prog Tryd.f11 [] false w args ∧ laidMetH Tryd.checked.prog LaidTD w) ∧ sizedMet enc Tryd.checked.prog Tryd.f11 (OpenSpec.ofChange Rows.signTellsSpec) false w args) (Rows.signTellsSpec.post enc Tryd.checked.prog Tryd.f11 false true false false) :=
  returns_of_walkD (C := Tryd.checked) (s := Rows.signTellsSpec) (L := LaidTD) (D := TabTD) own started (by kernel_rfl) Tryd.func11
    (ChangeSpec.witness_at (enc := enc) (C := Tryd.checked) (os := os) (X := fun w _ => laidMetH Tryd.prog LaidTD w) false (laidWorldTD os) #[.int .i64 0, .int .i64 0, .agg #[.string ⟨#[]⟩, .int .i64 0, .string ⟨#[]⟩], .int .i64 0, .agg #[.string ⟨#[]⟩, .int .i64 0, .string ⟨#[]⟩, .int .i64 0, .int .i64 0]] 8 rfl (by kernel_rfl) (by kernel_rfl) (by kernel_rfl) (by kernel_rfl) (by kernel_rfl) (laidWorldTD_met os _))
    (fun W h => tabTD_of_laid h) laidOut (by kernel_rfl) rfl Tryd.underlying4 rfl (fun ds h => by match ds, h with | [_, _, _, _, _], _ => rfl) (signTells_walks H enc)

theorem signTells_bare : Rows.SignTellsSaid :=
  OpenClaim.holds_of_wide 11 Tryd.f11 rfl rfl rfl rfl rfl rfl rfl ⟨rfl, rfl, rfl, rfl, rfl⟩ rfl rfl rfl rfl rfl (by kernel_rfl) Tryd.func11 (by kernel_rfl)
    (of_decide_eq_true (by kernel_rfl)) (by unfold Func.isWrapper; rw [if_neg (of_decide_eq_false (by kernel_rfl))]; exact ⟨rfl, rfl⟩)
    (fun os started H enc _ => signTells_lifted os started H enc)

theorem signTells_holds : Rows.SignTellsCardSaid :=
  Claim7.holds_tied_plain_at .later [] [.data, .data, .data, .handle] true Rows.signTellsCard.stood.harness true
    signTells_bare (fun _ h => by cases h) (by kernel_rfl) (fun _ h => by cases h) signTells_row_tie rfl ⟨rfl, rfl⟩ (by kernel_rfl) rfl
    (fun f fn hf hfn => by
      obtain rfl : f = 11 := Option.some.inj ((show Tryd.prog.funcNamed "bootstair/stairlaw1.SignTells" = some 11 by kernel_rfl).symm.trans hf) |>.symm
      obtain rfl : fn = Tryd.f11 := (Option.some.inj (Tryd.func11.symm.trans hfn)).symm
      exact ⟨by kernel_rfl, fun j t ht => by
        have hm : t ∈ Tryd.f11.params.toList := by simpa using Array.mem_of_getElem? ht
        have hall : (Tryd.f11.params.toList.all fun u => !Tryd.prog.wantsStandIn u) = true := by kernel_rfl
        exact (show Tryd.prog.wantsStandIn t = false by simpa using List.all_eq_true.1 hall t hm)⟩)
    (by kernel_rfl)

end Go.Proofs.YtnocigkfhdnhfaaDoor
