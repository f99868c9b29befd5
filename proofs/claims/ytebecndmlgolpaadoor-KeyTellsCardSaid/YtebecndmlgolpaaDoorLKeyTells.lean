/- KeyTells: the public key of any secret, any seal, and whether any is right: the program's is the reference's. The package variable errors.errorType holds what the program's text lays. -/
import Derived.Test.YtebecndmlgolpaaDoorRows
import Derived.Test.YtebecndmlgolpaaDoorOpen
import Derived.Test.YtebecndmlgolpaaDoorOpS
import Derived.Test.YtebecndmlgolpaaDoorKey
import Derived.Test.YtebecndmlgolpaaDoorRefK
import Derived.Test.YtebecndmlgolpaaDoorRefK2
import Derived.Test.YtebecndmlgolpaaDoorTold
import Derived.Test.YtebecndmlgolpaaDoorBds
import Derived.Test.YtebecndmlgolpaaDoorLiftD
import Derived.WalkKit
import Derived.Lib.Hide
import Derived.Deep.CutRange
import Derived.Deep.DeepCutAuto
namespace Go.Proofs.YtebecndmlgolpaaDoor
open Go.ChangeShapes Go.WideShapes Go.ChangeAt Go.RowKit
set_option linter.unusedVariables false
set_option maxRecDepth 100000

theorem sg_ways (x k m : Int) : (sgE x k m = 0 ∧ sgP x k m = pwI 64 k ∧ sgA x k m = sealA x k m ∧ okSecret x = true ∧ okSecret k = true ∧ okM m = true) ∨ (sgE x k m = 1 ∧ sgP x k m = 0 ∧ sgA x k m = 0) := by
  cases h : okSign x k m
  · exact Or.inr ⟨by simp [sgE, h], by simp [sgP, h], by simp [sgA, h]⟩
  · have h2 := h
    unfold okSign at h2
    simp only [Bool.and_eq_true] at h2
    exact Or.inl ⟨by simp [sgE, h], by simp [sgP, h], by simp [sgA, h], h2.1.1, h2.1.2, h2.2⟩
theorem right_chk (q m p a : Int) : (rightE q m p a == 0) = chkB q m p a ∧ ((rightE q m p a == 8) = false → rightE q m p a = chkE q m p a) ∧ ((rightE q m p a == 8) = true → chkE q m p a = 0) := by
  rcases rightE_ways q m p a with ⟨h1, h2⟩ | ⟨h1, h2, h3⟩ | ⟨h1, h2, h3⟩
  · have h3 : chkB q m p a = false := by
      cases h : okSeal q m p a
      · simp [chkB, h]
      · unfold chkE at h1; rw [h] at h1; exact absurd h1 (by decide)
    rw [h2, h1, h3]; decide
  · rw [h1, h2, h3]; decide
  · rw [h1, h2, h3]; decide

set_option maxHeartbeats 2000000 in
theorem keyTells_walk (w : World) (x k m q p a : Int) (ix : I64 x) (ik : I64 k) (im : I64 m) (iq : I64 q) (ip : I64 p) (ia : I64 a) (hg : Door w) :
    Calls Tryd.prog 4 #[.int .i64 x, .int .i64 k, .int .i64 m, .int .i64 q, .agg #[.int .i64 p, .int .i64 a]] w fun e w' => e = .returned (.bool true) ∧ Below w.heap.size w w' := by
  have HG := Lib.hid hg
  clear hg
  go_enter Tryd.func4, Tryd.ntmps4
  go_upto_if 25 with (go_at_call 18; refine (rSecret_any _ _).mono ?_; rintro e w' ⟨rfl, rfl⟩)
  have BS0 := Box.new w 36 #[.int .i64 p, .int .i64 a]
  go_cut [11, 12, 13] (fun e n _ wx => e = .int .i64 (pubE x) ∧ n = .int .i64 (pubM x) ∧ Below w.heap.size w wx ∧ Box wx w.heap.size 36 #[.int .i64 p, .int .i64 a])
  case first =>
    cases hx : okSecret x
    · have HE := Lib.hid (pubE_no hx)
      have HM := Lib.hid (pubM_no hx)
      go_wp2_with fail
      go_meet
      exact ⟨by rw [HE.out], by rw [HM.out], (by repeat (first | (with_reducible exact grow_refl _) | (with_reducible assumption) | (with_reducible refine grow_alloc ?_ _) | (with_reducible refine grow_set ?_ (by first | exact Nat.le_refl _ | (simp; done) | (simp; omega) | omega) _) | (with_reducible refine grow_drewN ?_ _) | (with_reducible refine grow_drew ?_) | (with_reducible refine grow_step ?_ (by assumption)) | (with_reducible refine grow_base ?_ (by assumption)))), BS0⟩
    · obtain ⟨x1, x2⟩ := okSecret_yes hx
      have HE := Lib.hid (pubE_yes hx)
      have HM := Lib.hid (pubM_yes hx)
      go_wp2_with (go_at_call 19; refine (rPower_any _ _ _ (by omega) (by omega) (by omega) (by omega)).mono ?_; rintro e w' ⟨rfl, rfl⟩)
      go_meet
      exact ⟨by rw [HE.out], by rw [HM.out], (by repeat (first | (with_reducible exact grow_refl _) | (with_reducible assumption) | (with_reducible refine grow_alloc ?_ _) | (with_reducible refine grow_set ?_ (by first | exact Nat.le_refl _ | (simp; done) | (simp; omega) | omega) _) | (with_reducible refine grow_drewN ?_ _) | (with_reducible refine grow_drew ?_) | (with_reducible refine grow_step ?_ (by assumption)) | (with_reducible refine grow_base ?_ (by assumption)))), BS0⟩
  case rest =>
    obtain ⟨rfl, rfl, hb, BS1⟩ := hcut
    go_wp2_with fail
    refine (public_any x _).mono ?_
    rintro e w1 ⟨rfl, rfl⟩
    go_wp2_with fail
    refine (error_any _ _ _ (HG.out.below (by repeat (first | (with_reducible exact grow_refl _) | (with_reducible assumption) | (with_reducible refine grow_alloc ?_ _) | (with_reducible refine grow_set ?_ (by first | exact Nat.le_refl _ | (simp; done) | (simp; omega) | omega) _) | (with_reducible refine grow_drewN ?_ _) | (with_reducible refine grow_drew ?_) | (with_reducible refine grow_step ?_ (by assumption)) | (with_reducible refine grow_base ?_ (by assumption))))) (pubE_bd _)).mono ?_
    rintro e w2 ⟨rfl, hb2⟩
    have BS2 := BS1.below hb2
    go_upto_if 46 with (go_at_call 21; refine (rSigned_any _ _ _ _).mono ?_; rintro e w' ⟨rfl, rfl⟩)
    have BW := Box.new w2 36 #[.int .i64 0, .int .i64 0]
    have l2 := BS2.lt
    go_cut [11] (fun e wx => e = .int .i64 (sgE x k m) ∧ Below w.heap.size w wx ∧ Box wx w.heap.size 36 #[.int .i64 p, .int .i64 a] ∧ Box wx w2.heap.size 36 #[.int .i64 (sgP x k m), .int .i64 (sgA x k m)])
    case first =>
      rcases sg_ways x k m with ⟨h1, h2, h3, h4, h5, h6⟩ | ⟨h1, h2, h3⟩
      · have t : (sgE x k m == 0) = true := by rw [h1]; rfl
        have HE := Lib.hid (And.intro h2 h3)
        clear h1 h2 h3
        go_wp2_with fail
        refine (rSign_any x k m _ h4 h5 h6).mono ?_
        rintro e w3 ⟨rfl, hb3⟩
        have BW3 := BW.below hb3
        have BS3 := (BS2.alloc_ _).below hb3
        have c3 := BW3.cell
        have f3 := BW3.frozen
        have l3 := BW3.lt
        go_wp2_with fail
        go_meet
        exact ⟨rfl, (by repeat (first | (with_reducible exact grow_refl _) | (with_reducible assumption) | (with_reducible refine grow_alloc ?_ _) | (with_reducible refine grow_set ?_ (by first | exact Nat.le_refl _ | (simp; done) | (simp; omega) | omega) _) | (with_reducible refine grow_drewN ?_ _) | (with_reducible refine grow_drew ?_) | (with_reducible refine grow_step ?_ (by assumption)) | (with_reducible refine grow_base ?_ (by assumption)))), (BS3.far (by simp; omega) _).far (by simp; omega) _, by rw [HE.out.1, HE.out.2]; exact BW3.fill2 _ _⟩
      · have t : (sgE x k m == 0) = false := by rw [h1]; rfl
        have HE := Lib.hid (And.intro h2 h3)
        clear h1 h2 h3
        go_wp2_with fail
        go_meet
        exact ⟨rfl, (by repeat (first | (with_reducible exact grow_refl _) | (with_reducible assumption) | (with_reducible refine grow_alloc ?_ _) | (with_reducible refine grow_set ?_ (by first | exact Nat.le_refl _ | (simp; done) | (simp; omega) | omega) _) | (with_reducible refine grow_drewN ?_ _) | (with_reducible refine grow_drew ?_) | (with_reducible refine grow_step ?_ (by assumption)) | (with_reducible refine grow_base ?_ (by assumption)))), BS2.alloc_ _, by rw [HE.out.1, HE.out.2]; exact BW⟩
    case rest =>
      obtain ⟨rfl, hb4, BS4, BW4⟩ := hcut
      go_wp2_with fail
      refine (sign_any x k m _).mono ?_
      rintro e w5 ⟨rfl, hb5⟩
      have BS5 := BS4.below hb5
      have BW5 := BW4.below hb5
      have cS5 := BS5.cell
      have cW5 := BW5.cell
      go_wp2_with fail
      have BZ := Box.new w5 36 #[.int .i64 (sgP x k m), .int .i64 (sgA x k m)]
      have l5 := BS5.lt
      have m5 := BW5.lt
      clear cS5 cW5
      refine (error_any _ _ _ (HG.out.below (by repeat (first | (with_reducible exact grow_refl _) | (with_reducible assumption) | (with_reducible refine grow_alloc ?_ _) | (with_reducible refine grow_set ?_ (by first | exact Nat.le_refl _ | (simp; done) | (simp; omega) | omega) _) | (with_reducible refine grow_drewN ?_ _) | (with_reducible refine grow_drew ?_) | (with_reducible refine grow_step ?_ (by assumption)) | (with_reducible refine grow_base ?_ (by assumption))))) (sgE_bd _ _ _)).mono ?_
      rintro e w6 ⟨rfl, hb6⟩
      have BZ6 := BZ.below hb6
      have BS6 := (BS5.alloc_ _).below hb6
      have BW6 := (BW5.alloc_ _).below hb6
      have cZ := BZ6.cell
      have cS := BS6.cell
      have cW := BW6.cell
      have lZ := BZ6.lt
      have lS := BS6.lt
      have lW := BW6.lt
      go_wp2_with fail
      clear cZ cS cW
      refine (rRight_any _ _ _ _ _).mono ?_
      rintro e w7 ⟨rfl, hb7⟩
      have BS7 := BS6.below hb7
      obtain ⟨r1, r2, r3⟩ := right_chk q m p a
      have R1 := Lib.hid r1
      have R2 := Lib.hid r2
      have R3 := Lib.hid r3
      clear r1 r2 r3
      go_upto_if 73 with fail
      rw [R1.out]
      go_cut [11] (fun e wx => e = .int .i64 (chkE q m p a) ∧ Below w.heap.size w wx ∧ Box wx w.heap.size 36 #[.int .i64 p, .int .i64 a])
      case first =>
        rcases Bool.eq_false_or_eq_true (rightE q m p a == 8) with t | t
        · have HE := Lib.hid (R3.out t)
          go_wp2_with fail
          go_meet
          exact ⟨by rw [HE.out], (by repeat (first | (with_reducible exact grow_refl _) | (with_reducible assumption) | (with_reducible refine grow_alloc ?_ _) | (with_reducible refine grow_set ?_ (by first | exact Nat.le_refl _ | (simp; done) | (simp; omega) | omega) _) | (with_reducible refine grow_drewN ?_ _) | (with_reducible refine grow_drew ?_) | (with_reducible refine grow_step ?_ (by assumption)) | (with_reducible refine grow_base ?_ (by assumption)))), BS7⟩
        · have HE := Lib.hid (R2.out t)
          go_wp2_with fail
          go_meet
          exact ⟨by rw [HE.out], (by repeat (first | (with_reducible exact grow_refl _) | (with_reducible assumption) | (with_reducible refine grow_alloc ?_ _) | (with_reducible refine grow_set ?_ (by first | exact Nat.le_refl _ | (simp; done) | (simp; omega) | omega) _) | (with_reducible refine grow_drewN ?_ _) | (with_reducible refine grow_drew ?_) | (with_reducible refine grow_step ?_ (by assumption)) | (with_reducible refine grow_base ?_ (by assumption)))), BS7⟩
      case rest =>
        obtain ⟨rfl, hb8, BS8⟩ := hcut
        have cS := BS8.cell
        have lS := BS8.lt
        go_wp2_with fail
        clear cS
        refine (check_any _ _ _ _ _).mono ?_
        rintro e w9 ⟨rfl, hb9⟩
        go_wp2_with fail
        refine (error_any _ _ _ (HG.out.below (by repeat (first | (with_reducible exact grow_refl _) | (with_reducible assumption) | (with_reducible refine grow_alloc ?_ _) | (with_reducible refine grow_set ?_ (by first | exact Nat.le_refl _ | (simp; done) | (simp; omega) | omega) _) | (with_reducible refine grow_drewN ?_ _) | (with_reducible refine grow_drew ?_) | (with_reducible refine grow_step ?_ (by assumption)) | (with_reducible refine grow_base ?_ (by assumption))))) (chkE_bd _ _ _ _)).mono ?_
        rintro e w10 ⟨rfl, hb10⟩
        go_wp2_with fail
        go_ret
        exact ⟨rfl, (by repeat (first | (with_reducible exact grow_refl _) | (with_reducible assumption) | (with_reducible refine grow_alloc ?_ _) | (with_reducible refine grow_set ?_ (by first | exact Nat.le_refl _ | (simp; done) | (simp; omega) | omega) _) | (with_reducible refine grow_drewN ?_ _) | (with_reducible refine grow_drew ?_) | (with_reducible refine grow_step ?_ (by assumption)) | (with_reducible refine grow_base ?_ (by assumption))))⟩

set_option maxRecDepth 100000 in
theorem keyTells_walks (H : Type) (enc : TypeId × Value → H) : WalksD enc Tryd.prog Door 4 Tryd.f4 := by
  intro W base args ds p hval hA hlt hsz hsh hdoor
  have hsz0 := hsz
  rw [Tryd.params4] at hA hval
  obtain ⟨v0, vs0, d0, ds0, p0, q0, hargs, rfl, rfl, h0, r0⟩ := trodAll_cons hA
  obtain ⟨v1, vs1, d1, ds1, p1, q1, rfl, rfl, rfl, h1, r1⟩ := trodAll_cons r0
  obtain ⟨v2, vs2, d2, ds2, p2, q2, rfl, rfl, rfl, h2, r2⟩ := trodAll_cons r1
  obtain ⟨v3, vs3, d3, ds3, p3, q3, rfl, rfl, rfl, h3, r3⟩ := trodAll_cons r2
  obtain ⟨v4, vs4, d4, ds4, p4, q4, rfl, rfl, rfl, h4, r4⟩ := trodAll_cons r3
  obtain ⟨rfl, rfl, rfl⟩ := trodAll_nil r4
  obtain rfl : args = #[v0, v1, v2, v3, v4] := by cases args; simp_all
  obtain ⟨a0, rfl, w0⟩ := op_int (hval 0 3 v0 rfl rfl) h0
  obtain ⟨a1, rfl, w1⟩ := op_int (hval 1 3 v1 rfl rfl) h1
  obtain ⟨a2, rfl, w2⟩ := op_int (hval 2 3 v2 rfl rfl) h2
  obtain ⟨a3, rfl, w3⟩ := op_int (hval 3 3 v3 rfl rfl) h3
  obtain ⟨s40, s41, rfl, q40, q41⟩ := op_seal (hval 4 36 v4 rfl rfl)
  exact keyTells_walk W a0 a1 a2 a3 s40 s41 w0 w1 w2 w3 q40 q41 hdoor

set_option maxRecDepth 100000 in
theorem keyTells_lifted (os : Os) (started : os.Started) (H : Type) (enc : TypeId × Value → H) :
    ReturnsInHanded {} Tryd.checked os 4 .any (fun w args => (Rows.keyTellsSpec.pre enc Tryd.checked.prog Tryd.f4 [] false w args ∧ laidMetH Tryd.checked.prog LaidD w) ∧ sizedMet enc Tryd.checked.prog Tryd.f4 (OpenSpec.ofChange Rows.keyTellsSpec) false w args) (Rows.keyTellsSpec.post enc Tryd.checked.prog Tryd.f4 false true false false) :=
  returns_of_walkD (C := Tryd.checked) (s := Rows.keyTellsSpec) (L := LaidD) (D := Door) own started (by kernel_rfl) Tryd.func4
    (ChangeSpec.witness_at (enc := enc) (C := Tryd.checked) (os := os) (X := fun w _ => laidMetH Tryd.prog LaidD w) false (laidWorld os) #[.int .i64 0, .int .i64 0, .int .i64 0, .int .i64 0, .agg #[.int .i64 0, .int .i64 0]] 8 rfl (by kernel_rfl) (by kernel_rfl) (by kernel_rfl) (by kernel_rfl) (by kernel_rfl) (laidWorld_met os _))
    (fun W h => door_of_laid h) laidOut (by kernel_rfl) rfl Tryd.underlying4 rfl (fun ds h => by match ds, h with | [_, _, _, _, _], _ => rfl) (keyTells_walks H enc)

theorem keyTells_bare : Rows.KeyTellsSaid :=
  OpenClaim.holds_of_wide 4 Tryd.f4 rfl rfl rfl rfl rfl rfl rfl ⟨rfl, rfl, rfl, rfl, rfl⟩ rfl rfl rfl rfl rfl (by kernel_rfl) Tryd.func4 (by kernel_rfl)
    (of_decide_eq_true (by kernel_rfl)) (by unfold Func.isWrapper; rw [if_neg (of_decide_eq_false (by kernel_rfl))]; exact ⟨rfl, rfl⟩)
    (fun os started H enc _ => keyTells_lifted os started H enc)

theorem keyTells_holds : Rows.KeyTellsCardSaid :=
  Claim7.holds_tied_plain_at .later [] [.handle] true Rows.keyTellsCard.stood.harness true
    keyTells_bare (fun _ h => by cases h) (by kernel_rfl) (fun _ h => by cases h) keyTells_row_tie rfl ⟨rfl, rfl⟩ (by kernel_rfl) rfl
    (fun f fn hf hfn => by
      obtain rfl : f = 4 := Option.some.inj ((show Tryd.prog.funcNamed "bootstair/stairlaw1.KeyTells" = some 4 by kernel_rfl).symm.trans hf) |>.symm
      obtain rfl : fn = Tryd.f4 := (Option.some.inj (Tryd.func4.symm.trans hfn)).symm
      exact ⟨by kernel_rfl, fun j t ht => by
        have hm : t ∈ Tryd.f4.params.toList := by simpa using Array.mem_of_getElem? ht
        have hall : (Tryd.f4.params.toList.all fun u => !Tryd.prog.wantsStandIn u) = true := by kernel_rfl
        exact (show Tryd.prog.wantsStandIn t = false by simpa using List.all_eq_true.1 hall t hm)⟩)
    (by kernel_rfl)

end Go.Proofs.YtebecndmlgolpaaDoor
