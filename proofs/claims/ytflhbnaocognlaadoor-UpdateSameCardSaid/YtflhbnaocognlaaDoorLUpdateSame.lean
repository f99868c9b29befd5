/- UpdateSame: the same is not newer. The listed package variables hold what the program's text lays. -/
import Derived.Test.YtflhbnaocognlaaDoorRows
import Derived.Test.YtflhbnaocognlaaDoorOpen
import Derived.Test.YtflhbnaocognlaaDoorOpI
import Derived.Test.YtflhbnaocognlaaDoorKey
import Derived.Test.YtflhbnaocognlaaDoorSign
import Derived.Test.YtflhbnaocognlaaDoorSign2
import Derived.Test.YtflhbnaocognlaaDoorCount3
import Derived.Test.YtflhbnaocognlaaDoorCntC
import Derived.Test.YtflhbnaocognlaaDoorUpdP
import Derived.Test.YtflhbnaocognlaaDoorUpd
import Derived.Test.YtflhbnaocognlaaDoorTold
import Derived.Test.YtflhbnaocognlaaDoorBds
import Derived.Test.YtflhbnaocognlaaDoorLiftD
import Derived.Test.YtflhbnaocognlaaDoorLiftT
import Derived.WalkKit
import Derived.WalkSpells
import Derived.Lib.Hide
import Derived.Deep.RegionHeld3
namespace Go.Proofs.YtflhbnaocognlaaDoor
open Go.ChangeShapes Go.WideShapes Go.ChangeAt Go.RowKit
set_option linter.unusedVariables false
set_option maxRecDepth 100000

theorem hasL_nil_ : hasL [] = fun _ => false := by funext t; rfl
theorem ofL_nil_ : ofL [] = fun _ => 0 := by funext t; rfl
theorem new_ce (w : World) :
    Calls Tryd.prog 10 #[] w fun e w' => ∃ b : Nat, e = .returned (.pointer (some ⟨b + 1, 0, none⟩)) ∧ CE w' b 0 [] ∧ Below w.heap.size w w' := by
  refine (countNewE_any w).mono ?_
  rintro e w' ⟨rfl, h, hb⟩
  refine ⟨_, rfl, ?_, hb⟩
  unfold CE
  rw [hasL_nil_, ofL_nil_]
  exact h

set_option maxHeartbeats 4000000 in
theorem updateSame_walk (w : World) (x k : Int) (n : ByteArray) (v : Int) (c : ByteArray) (ix : I64 x) (ik : I64 k) (iv : I64 v) (hn : n.size ≤ 140737488351232) (hc : c.size ≤ 140737488351232) (hg : TabTD w) :
    Calls Tryd.prog 3 #[.int .i64 x, .int .i64 k, .agg #[.string n, .int .i64 v, .string c]] w fun e w' => e = .returned (.bool true) ∧ Below w.heap.size w w' := by
  have en := fun k w => err_neq k w
  have ee := fun k w => err_eql k w
  have gn := fun o k w => err_guard_neq o k w
  have ge := fun o k w => err_guard_eql o k w
  have HG := Lib.hid hg.2
  have HT := Lib.hid hg.1
  clear hg
  by_cases hi : imgE n v c = 0
  rotate_left
  · obtain ⟨E, hE⟩ : ∃ E, imgE n v c = E := ⟨_, rfl⟩
    have HS := Lib.hid (fun w => signMake_no x k n v c w (by omega) (by omega) hi)
    rw [hE] at hi HS
    have t : (E != 0) = true := by simp [hi]
    clear hE hi
    go_enter Tryd.func3, Tryd.ntmps3
    go_wp2_with fail
    refine (HS.out _).mono ?_
    rintro e w1 ⟨rfl, hb1⟩
    go_wp2_with fail
    go_ret
    exact ⟨rfl, (by repeat (first | (with_reducible exact grow_refl _) | (with_reducible assumption) | (with_reducible refine grow_alloc ?_ _) | (with_reducible refine grow_set ?_ (by first | exact Nat.le_refl _ | (simp; done) | (simp; omega) | omega) _) | (with_reducible refine grow_drewN ?_ _) | (with_reducible refine grow_drew ?_) | (with_reducible refine grow_step ?_ (by assumption)) | (with_reducible refine grow_base ?_ (by assumption))))⟩
  cases ho : (okSecret x && okSecret k)
  · have HS := Lib.hid (fun w ht => signMake_bad x k n v c w (by omega) (by omega) hi ho ht)
    clear hi ho
    go_enter Tryd.func3, Tryd.ntmps3
    go_wp2_with fail
    refine (HS.out _ (HT.out.below (by repeat (first | (with_reducible exact grow_refl _) | (with_reducible assumption) | (with_reducible refine grow_alloc ?_ _) | (with_reducible refine grow_set ?_ (by first | exact Nat.le_refl _ | (simp; done) | (simp; omega) | omega) _) | (with_reducible refine grow_drewN ?_ _) | (with_reducible refine grow_drew ?_) | (with_reducible refine grow_step ?_ (by assumption)) | (with_reducible refine grow_base ?_ (by assumption)))))).mono ?_
    rintro e w1 ⟨rfl, hb1⟩
    go_wp2_with fail
    go_ret
    exact ⟨rfl, (by repeat (first | (with_reducible exact grow_refl _) | (with_reducible assumption) | (with_reducible refine grow_alloc ?_ _) | (with_reducible refine grow_set ?_ (by first | exact Nat.le_refl _ | (simp; done) | (simp; omega) | omega) _) | (with_reducible refine grow_drewN ?_ _) | (with_reducible refine grow_drew ?_) | (with_reducible refine grow_step ?_ (by assumption)) | (with_reducible refine grow_base ?_ (by assumption))))⟩
  have hxk : okSecret x = true ∧ okSecret k = true := by simpa using ho
  have HU := Lib.hid (fun ls => updE_same (n := n) (v := v) (c := c) hxk.1 hxk.2 hi ls)
  obtain ⟨M, hM⟩ : ∃ M, imgM n v c = M := ⟨_, rfl⟩
  have HS := Lib.hid (fun w ht => signMake_yes x k n v c M w (by omega) (by omega) hi hM hxk.1 hxk.2 ht)
  rw [hM] at HU
  obtain ⟨P, hP⟩ : ∃ P, pwI 64 k = P := ⟨_, rfl⟩
  obtain ⟨S, hS⟩ : ∃ S, sealA x k M = S := ⟨_, rfl⟩
  obtain ⟨Q, hQ⟩ : ∃ Q, pwI 64 x = Q := ⟨_, rfl⟩
  rw [hP, hS] at HU HS
  rw [hQ] at HU
  have hpm := pubM_yes hxk.1
  have hpe := pubE_yes hxk.1
  rw [hQ] at hpm
  have HPM := Lib.hid hpm
  have HPE := Lib.hid hpe
  clear hi ho hxk hM hP hS hQ hpm hpe
  go_enter Tryd.func3, Tryd.ntmps3
  go_wp2_with fail
  refine (HS.out _ (HT.out.below (by repeat (first | (with_reducible exact grow_refl _) | (with_reducible assumption) | (with_reducible refine grow_alloc ?_ _) | (with_reducible refine grow_set ?_ (by first | exact Nat.le_refl _ | (simp; done) | (simp; omega) | omega) _) | (with_reducible refine grow_drewN ?_ _) | (with_reducible refine grow_drew ?_) | (with_reducible refine grow_step ?_ (by assumption)) | (with_reducible refine grow_base ?_ (by assumption)))))).mono ?_
  rintro e w1 ⟨rfl, hb1⟩
  go_wp2_with (go_at_call 7; refine (public_any _ _).mono ?_; rintro e w' ⟨rfl, rfl⟩; rw [HPM.out, HPE.out])
  have HZ1 := Lib.hid (Box.new w1 27 #[.string n, .int .i64 v, .string c, .int .i64 P, .int .i64 S])
  have cZ := HZ1.out.drew_.cell
  have hbw1 : Below w.heap.size w w1 := grow_step (grow_alloc (grow_refl _) _) hb1
  have E0 := (HZ1.out.drew_)
  have GW := grow_drew (grow_alloc hbw1 (.cells #[.string n, .int .i64 v, .string c, .int .i64 P, .int .i64 S] 27))
  clear cZ
  go_region_held3 (fun w' => (∀ i, w'.cell? ⟨w1.heap.size, i, none⟩ = (#[.string n, .int .i64 v, .string c, .int .i64 P, .int .i64 S] : Array Value)[i]?) ∧ Below w.heap.size w w')
    (first
      | exact ⟨E0.cell, GW⟩
      | (go_keep; done))
    (first
      | (go_at_call 10; refine (new_ce _).mono ?_; rintro e w2 ⟨b, rfl, hC, hb2⟩; have E0 := E0.below hb2; have GW := grow_step GW hb2)
      | (go_at_call 9; refine (updMay_any Q none 0 [] [] n v c P S n v c P S b 0 _ (CertsAt.nil_ _ _) (by simp) hC hn hc hn hc (HT.out.below GW)).mono ?_; rintro e w3 ⟨rfl, hb3⟩; rw [HU.out]; have E0 := E0.below hb3; have GW := grow_step GW hb3)
      | (go_at_call 8; refine (error_any 9 9 _ (HG.out.below GW) (i64_small (by decide) (by decide))).mono ?_; rintro e w4 ⟨rfl, hb4⟩; have E0 := E0.below hb4; have GW := grow_step GW hb4))
  go_wp2_with fail
  go_ret
  exact ⟨by simp, GW⟩

set_option maxRecDepth 100000 in
theorem updateSame_walks (H : Type) (enc : TypeId × Value → H) : WalksD enc Tryd.prog TabTD 3 Tryd.f3 := by
  intro W base args ds p hval hA hlt hsz hsh hdoor
  have hsz0 := hsz
  rw [Tryd.params3] at hA hval
  obtain ⟨v0, vs0, d0, ds0, p0, q0, hargs, rfl, rfl, h0, r0⟩ := trodAll_cons hA
  obtain ⟨v1, vs1, d1, ds1, p1, q1, rfl, rfl, rfl, h1, r1⟩ := trodAll_cons r0
  obtain ⟨v2, vs2, d2, ds2, p2, q2, rfl, rfl, rfl, h2, r2⟩ := trodAll_cons r1
  obtain ⟨rfl, rfl, rfl⟩ := trodAll_nil r2
  obtain rfl : args = #[v0, v1, v2] := by cases args; simp_all
  obtain ⟨a0, rfl, w0⟩ := op_int (hval 0 3 v0 rfl rfl) h0
  obtain ⟨a1, rfl, w1⟩ := op_int (hval 1 3 v1 rfl rfl) h1
  obtain ⟨a2, b2, c2, rfl, w2, u2, z2⟩ := op_image (hval 2 23 v2 rfl rfl) h2 (w_each hsz 2 23 _ (by rw [Tryd.params3]; rfl) rfl)
  exact updateSame_walk W a0 a1 a2 b2 c2 w0 w1 w2 u2 z2 hdoor

set_option maxRecDepth 100000 in
theorem updateSame_lifted (os : Os) (started : os.Started) (H : Type) (enc : TypeId × Value → H) :
    ReturnsInHanded {} Tryd.checked os 3 .any (fun w args => (Rows.updateSameSpec.pre enc Tryd.checked.prog Tryd.f3 [] false w args ∧ laidMetH Tryd.checked.prog LaidTD w) ∧ sizedMet enc Tryd.checked.prog Tryd.f3 (OpenSpec.ofChange Rows.updateSameSpec) false w args) (Rows.updateSameSpec.post enc Tryd.checked.prog Tryd.f3 false true false false) :=
  returns_of_walkD (C := Tryd.checked) (s := Rows.updateSameSpec) (L := LaidTD) (D := TabTD) own started (by kernel_rfl) Tryd.func3
    (ChangeSpec.witness_at (enc := enc) (C := Tryd.checked) (os := os) (X := fun w _ => laidMetH Tryd.prog LaidTD w) false (laidWorldTD os) #[.int .i64 0, .int .i64 0, .agg #[.string ⟨#[]⟩, .int .i64 0, .string ⟨#[]⟩]] 8 rfl (by kernel_rfl) (by kernel_rfl) (by kernel_rfl) (by kernel_rfl) (by kernel_rfl) (laidWorldTD_met os _))
    (fun W h => tabTD_of_laid h) laidOut (by kernel_rfl) rfl Tryd.underlying4 rfl (fun ds h => by match ds, h with | [_, _, _], _ => rfl) (updateSame_walks H enc)

theorem updateSame_bare : Rows.UpdateSameSaid :=
  OpenClaim.holds_of_wide 3 Tryd.f3 rfl rfl rfl rfl rfl rfl rfl ⟨rfl, rfl, rfl, rfl, rfl⟩ rfl rfl rfl rfl rfl (by kernel_rfl) Tryd.func3 (by kernel_rfl)
    (of_decide_eq_true (by kernel_rfl)) (by unfold Func.isWrapper; rw [if_neg (of_decide_eq_false (by kernel_rfl))]; exact ⟨rfl, rfl⟩)
    (fun os started H enc _ => updateSame_lifted os started H enc)

theorem updateSame_holds : Rows.UpdateSameCardSaid :=
  Claim7.holds_tied_plain_at .later [] [.data, .data, .data, .handle] true Rows.updateSameCard.stood.harness true
    updateSame_bare (fun _ h => by cases h) (by kernel_rfl) (fun _ h => by cases h) updateSame_row_tie rfl ⟨rfl, rfl⟩ (by kernel_rfl) rfl
    (fun f fn hf hfn => by
      obtain rfl : f = 3 := Option.some.inj ((show Tryd.prog.funcNamed "bootstair/stairlaw4.UpdateSame" = some 3 by kernel_rfl).symm.trans hf) |>.symm
      obtain rfl : fn = Tryd.f3 := (Option.some.inj (Tryd.func3.symm.trans hfn)).symm
      exact ⟨by kernel_rfl, fun j t ht => by
        have hm : t ∈ Tryd.f3.params.toList := by simpa using Array.mem_of_getElem? ht
        have hall : (Tryd.f3.params.toList.all fun u => !Tryd.prog.wantsStandIn u) = true := by kernel_rfl
        exact (show Tryd.prog.wantsStandIn t = false by simpa using List.all_eq_true.1 hall t hm)⟩)
    (by kernel_rfl)

end Go.Proofs.YtflhbnaocognlaaDoor
