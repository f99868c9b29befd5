/- SignHolds: what is signed is right, by its key; and with another answer it is not. The listed package variables hold what the program's text lays. -/
import Derived.Test.YtnocigkfhdnhfaaDoorRows
import Derived.Test.YtnocigkfhdnhfaaDoorOpen
import Derived.Test.YtnocigkfhdnhfaaDoorOpI
import Derived.Test.YtnocigkfhdnhfaaDoorNum
import Derived.Test.YtnocigkfhdnhfaaDoorSeal
import Derived.Test.YtnocigkfhdnhfaaDoorKey
import Derived.Test.YtnocigkfhdnhfaaDoorImg
import Derived.Test.YtnocigkfhdnhfaaDoorImg2
import Derived.Test.YtnocigkfhdnhfaaDoorSign
import Derived.Test.YtnocigkfhdnhfaaDoorSign2
import Derived.Test.YtnocigkfhdnhfaaDoorTold
import Derived.Test.YtnocigkfhdnhfaaDoorBds
import Derived.Test.YtnocigkfhdnhfaaDoorLiftD
import Derived.Test.YtnocigkfhdnhfaaDoorLiftT
import Derived.WalkKit
import Derived.WalkSpells
import Derived.Lib.Hide
namespace Go.Proofs.YtnocigkfhdnhfaaDoor
open Go.ChangeShapes Go.WideShapes Go.ChangeAt Go.RowKit
set_option linter.unusedVariables false
set_option maxRecDepth 100000

theorem TabTD.below {w w' : World} (h : TabTD w) (hb : Below w.heap.size w w') : TabTD w' := ⟨h.1.below hb, h.2.below hb⟩
theorem os_ok : imgE ⟨#[111, 115]⟩ 1 ⟨#[]⟩ = 0 := by decide
theorem right_all (x k m other : Int) (hx : okSecret x = true) (hk : okSecret k = true) (hm : okM m = true) :
    rightE (pwI 64 x) m (pwI 64 k) other = if 0 ≤ other ∧ other ≤ 256 then (if other = sealA x k m then 0 else 8) else 1 := by
  obtain ⟨x1, x2⟩ := okSecret_yes hx
  obtain ⟨k1, k2⟩ := okSecret_yes hk
  have i1 := key_in (x := x) (by omega) (by omega)
  have i2 := key_in (x := k) (by omega) (by omega)
  unfold rightE okSeal
  rw [i1, i2, hm]
  by_cases h : 0 ≤ other ∧ other ≤ 256
  · have ha : okAns other = true := decide_eq_true h
    rw [ha, if_pos h, seal_only x k m other hx hk h.1 h.2]
    by_cases he : other = sealA x k m
    · simp [he]
    · simp [he]
  · have ha : okAns other = false := decide_eq_false h
    rw [ha, if_neg h]; simp

set_option maxHeartbeats 4000000 in
theorem signHolds_walk (w : World) (x k : Int) (n : ByteArray) (v : Int) (c : ByteArray) (o : Int) (ix : I64 x) (ik : I64 k) (iv : I64 v) (hn : n.size ≤ 140737488351232) (hc : c.size ≤ 140737488351232) (io : I64 o) (hg : TabTD w) :
    Calls Tryd.prog 12 #[.int .i64 x, .int .i64 k, .agg #[.string n, .int .i64 v, .string c], .int .i64 o] w fun e w' => e = .returned (.bool true) ∧ Below w.heap.size w w' := by
  have en := fun k w => err_neq k w
  have ee := fun k w => err_eql k w
  have gn := fun o k w => err_guard_neq o k w
  have ge := fun o k w => err_guard_eql o k w
  have HG := Lib.hid hg
  have H5 : Hid (okSecret 5 = true) := Lib.hid (by decide)
  have H7 : Hid (okSecret 7 = true) := Lib.hid (by decide)
  have HF0 := Lib.hid (Box.new w 26 #[.string n, .int .i64 v, .string c])
  clear hg
  go_enter Tryd.func12, Tryd.ntmps12
  go_wp2_with fail
  refine (signMake_yes 5 7 ⟨#[111, 115]⟩ 1 ⟨#[]⟩ _ _ (by decide) (by decide) os_ok rfl H5.out H7.out (HG.out.1.below (grow_alloc (grow_refl _) _))).mono ?_
  rintro e w1 ⟨rfl, hb1⟩
  obtain ⟨P7, hP7⟩ : ∃ P, pwI 64 7 = P := ⟨_, rfl⟩
  obtain ⟨S7, hS7⟩ : ∃ S, sealA 5 7 (imgM ⟨#[111, 115]⟩ 1 ⟨#[]⟩) = S := ⟨_, rfl⟩
  rw [hP7, hS7]
  have hbw1 : Below w.heap.size w w1 := grow_step (grow_alloc (grow_refl _) _) hb1
  have HF1 := Lib.hid ((HF0.out.below hb1).alloc_ (.cells #[.string ⟨#[111, 115]⟩, .int .i64 1, .string ⟨#[]⟩, .int .i64 P7, .int .i64 S7] 53))
  have cF := HF1.out.cell
  have lF := HF1.out.lt
  clear hb1 hP7 hS7 HF0
  by_cases hi : imgE n v c = 0
  rotate_left
  · obtain ⟨E, hE⟩ : ∃ E, imgE n v c = E := ⟨_, rfl⟩
    have HE := Lib.hid hE
    have HN := Lib.hid hi
    rw [hE] at hi
    have t : (E != 0) = true := by simp [hi]
    clear hE hi
    go_wp2_with fail
    refine (signMake_no x k n v c _ (by omega) (by omega) HN.out).mono ?_
    rintro e w2 ⟨rfl, hb2⟩
    rw [HE.out]
    have hbw2 : Below w.heap.size w w2 := grow_step (grow_alloc hbw1 _) hb2
    clear cF lF hb2
    go_wp2_with fail
    go_ret
    exact ⟨rfl, (by repeat (first | (with_reducible exact grow_refl _) | (with_reducible assumption) | (with_reducible refine grow_alloc ?_ _) | (with_reducible refine grow_set ?_ (by first | exact Nat.le_refl _ | (simp; done) | (simp; omega) | omega) _) | (with_reducible refine grow_drewN ?_ _) | (with_reducible refine grow_drew ?_) | (with_reducible refine grow_step ?_ (by assumption)) | (with_reducible refine grow_base ?_ (by assumption))))⟩
  have HI := Lib.hid hi
  clear hi
  cases hok : (okSecret x && okSecret k)
  · have HO := Lib.hid hok
    clear hok
    go_wp2_with fail
    refine (signMake_bad x k n v c _ (by omega) (by omega) HI.out HO.out (HG.out.1.below (grow_alloc hbw1 _))).mono ?_
    rintro e w2 ⟨rfl, hb2⟩
    have hbw2 : Below w.heap.size w w2 := grow_step (grow_alloc hbw1 _) hb2
    clear cF lF hb2
    go_wp2_with fail
    go_ret
    exact ⟨rfl, (by repeat (first | (with_reducible exact grow_refl _) | (with_reducible assumption) | (with_reducible refine grow_alloc ?_ _) | (with_reducible refine grow_set ?_ (by first | exact Nat.le_refl _ | (simp; done) | (simp; omega) | omega) _) | (with_reducible refine grow_drewN ?_ _) | (with_reducible refine grow_drew ?_) | (with_reducible refine grow_step ?_ (by assumption)) | (with_reducible refine grow_base ?_ (by assumption))))⟩
  obtain ⟨hx, hk⟩ := Bool.and_eq_true_iff.1 hok
  clear hok
  obtain ⟨M, hM⟩ : ∃ M, imgM n v c = M := ⟨_, rfl⟩
  have hmo : okM M = true := by rw [← hM]; exact imgM_ok _ _ _
  have HS : Hid (∀ a, signE (pwI 64 x) n v c (pwI 64 k) a = if 0 ≤ a ∧ a ≤ 256 then (if a = sealA x k M then 0 else 8) else 1) := Lib.hid (fun a => by
    unfold signE; rw [if_pos HI.out, hM, right_all x k M a hx hk hmo])
  have hsb := sealA_bd x k M
  have HX := Lib.hid hx
  have HK := Lib.hid hk
  have HM := Lib.hid hM
  have HPU : Hid (pubM x = pwI 64 x ∧ pubE x = 0) := Lib.hid ⟨pubM_yes hx, pubE_yes hx⟩
  clear hx hk hM hmo
  go_wp2_with fail
  refine (signMake_yes x k n v c M _ (by omega) (by omega) HI.out HM.out HX.out HK.out (HG.out.1.below (grow_alloc hbw1 _))).mono ?_
  rintro e w2 ⟨rfl, hb2⟩
  obtain ⟨Q, hQ⟩ : ∃ Q, pwI 64 x = Q := ⟨_, rfl⟩
  obtain ⟨P, hP⟩ : ∃ P, pwI 64 k = P := ⟨_, rfl⟩
  obtain ⟨S, hS⟩ : ∃ S, sealA x k M = S := ⟨_, rfl⟩
  rw [hP, hS]
  rw [hQ, hP, hS] at HS
  rw [hQ] at HPU
  rw [hS] at hsb
  have hbw2 : Below w.heap.size w w2 := grow_step (grow_alloc hbw1 _) hb2
  have HF2 := Lib.hid ((HF1.out.below hb2).alloc_ (.cells #[.string n, .int .i64 v, .string c, .int .i64 P, .int .i64 S] 53))
  have HB2 := Lib.hid (Box.new w2 53 #[.string n, .int .i64 v, .string c, .int .i64 P, .int .i64 S])
  clear cF lF hb2 hQ hP hS HF1
  have hs0 : signE Q n v c P S = 0 := by rw [HS.out S, if_pos hsb, if_pos rfl]
  have HS0 := Lib.hid hs0
  clear hs0
  go_wp2_with fail
  refine (public_any x _).mono ?_
  rintro e w3 ⟨rfl, rfl⟩
  rw [HPU.out.1, HPU.out.2]
  go_wp2_with fail
  refine (signCheck_any Q n v c P S _ (by omega) (by omega) (HG.out.1.below (grow_alloc hbw2 _))).mono ?_
  rintro e w3 ⟨rfl, hb3⟩
  rw [HS0.out]
  have HB3 := Lib.hid (HB2.out.below hb3)
  have cB3 := HB3.out.cell
  have lB3 := HB3.out.lt
  have fB3 := HB3.out.frozen
  have F3 := HF2.out.below hb3
  have cF3 := F3.cell
  have lF3 := F3.lt
  have hbw3 : Below w.heap.size w w3 := grow_step (grow_alloc hbw2 _) hb3
  have hb23 : w2.heap.size ≥ w.heap.size := hbw2.size
  have qi := fun w => neIm n v c hn hc iv w
  have qg := fun o q w => guardIm (.string n) (.int .i64 v) (.string c) (.string n) (.int .i64 v) (.string c) .neq o q w
  clear hb3 F3 HF2
  go_wp2_with fail
  refine (signCheck_any Q n v c P o _ (by omega) (by omega) (HG.out.1.below (by exact grow_set hbw3 hb23 _))).mono ?_
  rintro e w4 ⟨rfl, hb4⟩
  have hbw4 : Below w.heap.size w w4 := grow_step (grow_set hbw3 hb23 _) hb4
  have hso := HS.out o
  clear hb4 cB3 cF3
  by_cases o1 : o < 0
  · rw [if_neg (by omega)] at hso
    rw [hso]
    clear hso
    go_wp2_with fail
    refine (error_any 1 1 _ (HG.out.2.below hbw4) (i64_small (by decide) (by decide))).mono ?_
    rintro e w5 ⟨rfl, hb5⟩
    go_wp2_with fail
    go_ret
    exact ⟨rfl, (by repeat (first | (with_reducible exact grow_refl _) | (with_reducible assumption) | (with_reducible refine grow_alloc ?_ _) | (with_reducible refine grow_set ?_ (by first | exact Nat.le_refl _ | (simp; done) | (simp; omega) | omega) _) | (with_reducible refine grow_drewN ?_ _) | (with_reducible refine grow_drew ?_) | (with_reducible refine grow_step ?_ (by assumption)) | (with_reducible refine grow_base ?_ (by assumption))))⟩
  by_cases o2 : 256 < o
  · rw [if_neg (by omega)] at hso
    rw [hso]
    clear hso
    go_wp2_with fail
    refine (error_any 1 1 _ (HG.out.2.below hbw4) (i64_small (by decide) (by decide))).mono ?_
    rintro e w5 ⟨rfl, hb5⟩
    go_wp2_with fail
    go_ret
    exact ⟨rfl, (by repeat (first | (with_reducible exact grow_refl _) | (with_reducible assumption) | (with_reducible refine grow_alloc ?_ _) | (with_reducible refine grow_set ?_ (by first | exact Nat.le_refl _ | (simp; done) | (simp; omega) | omega) _) | (with_reducible refine grow_drewN ?_ _) | (with_reducible refine grow_drew ?_) | (with_reducible refine grow_step ?_ (by assumption)) | (with_reducible refine grow_base ?_ (by assumption))))⟩
  rw [if_pos (by omega)] at hso
  by_cases o3 : o = S
  · rw [if_pos o3] at hso
    rw [hso]
    subst o3
    clear hso
    go_wp2_with fail
    go_ret
    exact ⟨rfl, (by repeat (first | (with_reducible exact grow_refl _) | (with_reducible assumption) | (with_reducible refine grow_alloc ?_ _) | (with_reducible refine grow_set ?_ (by first | exact Nat.le_refl _ | (simp; done) | (simp; omega) | omega) _) | (with_reducible refine grow_drewN ?_ _) | (with_reducible refine grow_drew ?_) | (with_reducible refine grow_step ?_ (by assumption)) | (with_reducible refine grow_base ?_ (by assumption))))⟩
  · rw [if_neg o3] at hso
    rw [hso]
    have o4 : (o == S) = false := by simp [o3]
    clear hso
    go_wp2_with fail
    refine (error_any 8 8 _ (HG.out.2.below hbw4) (i64_small (by decide) (by decide))).mono ?_
    rintro e w5 ⟨rfl, hb5⟩
    go_wp2_with fail
    go_ret
    exact ⟨rfl, (by repeat (first | (with_reducible exact grow_refl _) | (with_reducible assumption) | (with_reducible refine grow_alloc ?_ _) | (with_reducible refine grow_set ?_ (by first | exact Nat.le_refl _ | (simp; done) | (simp; omega) | omega) _) | (with_reducible refine grow_drewN ?_ _) | (with_reducible refine grow_drew ?_) | (with_reducible refine grow_step ?_ (by assumption)) | (with_reducible refine grow_base ?_ (by assumption))))⟩

set_option maxRecDepth 100000 in
theorem signHolds_walks (H : Type) (enc : TypeId × Value → H) : WalksD enc Tryd.prog TabTD 12 Tryd.f12 := by
  intro W base args ds p hval hA hlt hsz hsh hdoor
  have hsz0 := hsz
  rw [Tryd.params12] at hA hval
  obtain ⟨v0, vs0, d0, ds0, p0, q0, hargs, rfl, rfl, h0, r0⟩ := trodAll_cons hA
  obtain ⟨v1, vs1, d1, ds1, p1, q1, rfl, rfl, rfl, h1, r1⟩ := trodAll_cons r0
  obtain ⟨v2, vs2, d2, ds2, p2, q2, rfl, rfl, rfl, h2, r2⟩ := trodAll_cons r1
  obtain ⟨v3, vs3, d3, ds3, p3, q3, rfl, rfl, rfl, h3, r3⟩ := trodAll_cons r2
  obtain ⟨rfl, rfl, rfl⟩ := trodAll_nil r3
  obtain rfl : args = #[v0, v1, v2, v3] := by cases args; simp_all
  obtain ⟨a0, rfl, w0⟩ := op_int (hval 0 3 v0 rfl rfl) h0
  obtain ⟨a1, rfl, w1⟩ := op_int (hval 1 3 v1 rfl rfl) h1
  obtain ⟨a2, b2, c2, rfl, w2, u2, z2⟩ := op_image (hval 2 26 v2 rfl rfl) h2 (w_each hsz 2 26 _ (by rw [Tryd.params12]; rfl) rfl)
  obtain ⟨a3, rfl, w3⟩ := op_int (hval 3 3 v3 rfl rfl) h3
  exact signHolds_walk W a0 a1 a2 b2 c2 a3 w0 w1 w2 u2 z2 w3 hdoor

set_option maxRecDepth 100000 in
theorem signHolds_lifted (os : Os) (started : os.Started) (H : Type) (enc : TypeId × Value → H) :
    ReturnsInHanded {} Tryd.checked os 12 .any (fun w args => (Rows.signHoldsSpec.pre enc Tryd.checked.prog Tryd.f12 [] false w args ∧ laidMetH Tryd.checked.prog LaidTD w) ∧ sizedMet enc Tryd.checked.prog Tryd.f12 (OpenSpec.ofChange Rows.signHoldsSpec) false w args) (Rows.signHoldsSpec.post enc Tryd.checked.prog Tryd.f12 false true false false) :=
  returns_of_walkD (C := Tryd.checked) (s := Rows.signHoldsSpec) (L := LaidTD) (D := TabTD) own started (by kernel_rfl) Tryd.func12
    (ChangeSpec.witness_at (enc := enc) (C := Tryd.checked) (os := os) (X := fun w _ => laidMetH Tryd.prog LaidTD w) false (laidWorldTD os) #[.int .i64 0, .int .i64 0, .agg #[.string ⟨#[]⟩, .int .i64 0, .string ⟨#[]⟩], .int .i64 0] 8 rfl (by kernel_rfl) (by kernel_rfl) (by kernel_rfl) (by kernel_rfl) (by kernel_rfl) (laidWorldTD_met os _))
    (fun W h => tabTD_of_laid h) laidOut (by kernel_rfl) rfl Tryd.underlying4 rfl (fun ds h => by match ds, h with | [_, _, _, _], _ => rfl) (signHolds_walks H enc)

theorem signHolds_bare : Rows.SignHoldsSaid :=
  OpenClaim.holds_of_wide 12 Tryd.f12 rfl rfl rfl rfl rfl rfl rfl ⟨rfl, rfl, rfl, rfl, rfl⟩ rfl rfl rfl rfl rfl (by kernel_rfl) Tryd.func12 (by kernel_rfl)
    (of_decide_eq_true (by kernel_rfl)) (by unfold Func.isWrapper; rw [if_neg (of_decide_eq_false (by kernel_rfl))]; exact ⟨rfl, rfl⟩)
    (fun os started H enc _ => signHolds_lifted os started H enc)

theorem signHolds_holds : Rows.SignHoldsCardSaid :=
  Claim7.holds_tied_plain_at .later [] [.data, .data, .data, .handle] true Rows.signHoldsCard.stood.harness true
    signHolds_bare (fun _ h => by cases h) (by kernel_rfl) (fun _ h => by cases h) signHolds_row_tie rfl ⟨rfl, rfl⟩ (by kernel_rfl) rfl
    (fun f fn hf hfn => by
      obtain rfl : f = 12 := Option.some.inj ((show Tryd.prog.funcNamed "bootstair/stairlaw1.SignHolds" = some 12 by kernel_rfl).symm.trans hf) |>.symm
      obtain rfl : fn = Tryd.f12 := (Option.some.inj (Tryd.func12.symm.trans hfn)).symm
      exact ⟨by kernel_rfl, fun j t ht => by
        have hm : t ∈ Tryd.f12.params.toList := by simpa using Array.mem_of_getElem? ht
        have hall : (Tryd.f12.params.toList.all fun u => !Tryd.prog.wantsStandIn u) = true := by kernel_rfl
        exact (show Tryd.prog.wantsStandIn t = false by simpa using List.all_eq_true.1 hall t hm)⟩)
    (by kernel_rfl)

end Go.Proofs.YtnocigkfhdnhfaaDoor
