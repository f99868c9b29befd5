/- CertTells: any cert, and the last key of any: the program's is the reference's. The package variable errors.errorType holds what the program's text lays. -/
import Derived.Test.YtebecndmlgolpaaDoorRows
import Derived.Test.YtebecndmlgolpaaDoorOpen
import Derived.Test.YtebecndmlgolpaaDoorOpC
import Derived.Test.YtebecndmlgolpaaDoorKey
import Derived.Test.YtebecndmlgolpaaDoorCert2
import Derived.Test.YtebecndmlgolpaaDoorRefK
import Derived.Test.YtebecndmlgolpaaDoorRefK2
import Derived.Test.YtebecndmlgolpaaDoorTold
import Derived.Test.YtebecndmlgolpaaDoorBds
import Derived.Test.YtebecndmlgolpaaDoorLiftD
import Derived.WalkKit
import Derived.Lib.Hide
import Derived.Deep.CutRange
import Derived.Deep.DeepCutAuto
namespace Go.Proofs.YtebecndmlgolpaaDoor
open Go.ChangeShapes Go.WideShapes Go.ChangeAt Go.RowKit
set_option linter.unusedVariables false
set_option maxRecDepth 100000

set_option maxHeartbeats 2000000 in
theorem certTells_walk (w : World) (x k q root : Int) (A : Option Addr) (l : List (Int × Int × Int)) (c : Nat) (ix : I64 x) (ik : I64 k) (iq : I64 q) (ir : I64 root) (hA : CertsAt w A l) (hz : l.length * 24 ≤ 140737488351232) (hc : l.length ≤ c) (hg : Door w) :
    Calls Tryd.prog 7 #[.int .i64 x, .int .i64 k, .int .i64 q, .int .i64 root, .slice A l.length c] w fun e w' => e = .returned (.bool true) ∧ Below w.heap.size w w' := by
  have HG := Lib.hid hg
  have HA := Lib.hid hA
  obtain ⟨⟨v1, v2, v3⟩, hv⟩ : ∃ t, cmV x k q = t := ⟨_, rfl⟩
  have HV := Lib.hid hv
  obtain ⟨⟨n, E⟩, hnE⟩ : ∃ t, certLast root l = t := ⟨_, rfl⟩
  have HN := Lib.hid hnE
  have iE : I64 E := by have := certLast_bd root l; rw [hnE] at this; exact this
  clear hg hA hv hnE
  go_enter Tryd.func7, Tryd.ntmps7
  go_upto_if 22 with (go_at_call 37; refine (rIn_any _ _).mono ?_; rintro e w' ⟨rfl, rfl⟩)
  have BW := Box.new w 64 #[.int .i64 0, .int .i64 0, .int .i64 0]
  go_cut [11, 13] (fun e _ wx => e = .int .i64 (cmE x k q) ∧ Below w.heap.size w wx ∧ Box wx w.heap.size 64 #[.int .i64 v1, .int .i64 v2, .int .i64 v3])
  case first =>
    cases hq : okIn q
    · have HE : Hid (cmE x k q = 1 ∧ v1 = 0 ∧ v2 = 0 ∧ v3 = 0) := Lib.hid (by
        have e : cmE x k q = 1 := by unfold cmE; rw [hq]; rfl
        have h := HV.out
        unfold cmV at h
        rw [if_neg (by rw [e]; decide)] at h
        simp only [Prod.mk.injEq] at h
        exact ⟨e, h.1.symm, h.2.1.symm, h.2.2.symm⟩)
      go_wp2_with fail
      go_meet
      exact ⟨by rw [HE.out.1], (by repeat (first | (with_reducible exact grow_refl _) | (with_reducible assumption) | (with_reducible refine grow_alloc ?_ _) | (with_reducible refine grow_set ?_ (by first | exact Nat.le_refl _ | (simp; done) | (simp; omega) | omega) _) | (with_reducible refine grow_drewN ?_ _) | (with_reducible refine grow_drew ?_) | (with_reducible refine grow_step ?_ (by assumption)) | (with_reducible refine grow_base ?_ (by assumption)))), by rw [HE.out.2.1, HE.out.2.2.1, HE.out.2.2.2]; exact BW⟩
    · rcases sg_ways x k q with ⟨h1, h2, h3, h4, h5, h6⟩ | ⟨h1, h2, h3⟩
      · have HE : Hid (cmE x k q = 0 ∧ v1 = q ∧ v2 = pwI 64 k ∧ v3 = sealA x k q) := Lib.hid (by
          have e : cmE x k q = 0 := by unfold cmE; rw [hq, if_pos rfl, h1]
          have h := HV.out
          unfold cmV at h
          rw [if_pos e, h2, h3] at h
          simp only [Prod.mk.injEq] at h
          exact ⟨e, h.1.symm, h.2.1.symm, h.2.2.symm⟩)
        have H1 := Lib.hid h1
        clear h1 h2 h3
        go_wp2_with (go_at_call 21; refine (rSigned_any _ _ _ _).mono ?_; rintro e w' ⟨rfl, rfl⟩; rw [H1.out])
        refine (rSign_any x k q _ h4 h5 h6).mono ?_
        rintro e w3 ⟨rfl, hb3⟩
        have BW3 := BW.below hb3
        have c3 := BW3.cell
        have f3 := BW3.frozen
        have l3 := BW3.lt
        go_wp2_with fail
        go_meet
        exact ⟨by rw [HE.out.1], (by repeat (first | (with_reducible exact grow_refl _) | (with_reducible assumption) | (with_reducible refine grow_alloc ?_ _) | (with_reducible refine grow_set ?_ (by first | exact Nat.le_refl _ | (simp; done) | (simp; omega) | omega) _) | (with_reducible refine grow_drewN ?_ _) | (with_reducible refine grow_drew ?_) | (with_reducible refine grow_step ?_ (by assumption)) | (with_reducible refine grow_base ?_ (by assumption)))), by rw [HE.out.2.1, HE.out.2.2.1, HE.out.2.2.2]; exact BW3.fill3 _ _ _⟩
      · have HE : Hid (cmE x k q = 1 ∧ v1 = 0 ∧ v2 = 0 ∧ v3 = 0) := Lib.hid (by
          have e : cmE x k q = 1 := by unfold cmE; rw [hq, if_pos rfl, h1]
          have h := HV.out
          unfold cmV at h
          rw [if_neg (by rw [e]; decide)] at h
          simp only [Prod.mk.injEq] at h
          exact ⟨e, h.1.symm, h.2.1.symm, h.2.2.symm⟩)
        have H1 := Lib.hid h1
        clear h1 h2 h3
        go_wp2_with (go_at_call 21; refine (rSigned_any _ _ _ _).mono ?_; rintro e w' ⟨rfl, rfl⟩; rw [H1.out])
        go_meet
        exact ⟨by rw [HE.out.1], (by repeat (first | (with_reducible exact grow_refl _) | (with_reducible assumption) | (with_reducible refine grow_alloc ?_ _) | (with_reducible refine grow_set ?_ (by first | exact Nat.le_refl _ | (simp; done) | (simp; omega) | omega) _) | (with_reducible refine grow_drewN ?_ _) | (with_reducible refine grow_drew ?_) | (with_reducible refine grow_step ?_ (by assumption)) | (with_reducible refine grow_base ?_ (by assumption)))), by rw [HE.out.2.1, HE.out.2.2.1, HE.out.2.2.2]; exact BW⟩
  case rest =>
    obtain ⟨rfl, hb, BW1⟩ := hcut
    go_wp2_with fail
    refine (certMake_any x k q _).mono ?_
    rintro e w2 ⟨he, hb2⟩
    obtain rfl := he (v1, v2, v3) HV.out.symm
    clear he
    simp only
    have BW2 := BW1.below hb2
    go_wp2_with fail
    have BZ := Box.new w2 64 #[.int .i64 v1, .int .i64 v2, .int .i64 v3]
    have l2 := BW2.lt
    refine (error_any _ _ _ (HG.out.below (by repeat (first | (with_reducible exact grow_refl _) | (with_reducible assumption) | (with_reducible refine grow_alloc ?_ _) | (with_reducible refine grow_set ?_ (by first | exact Nat.le_refl _ | (simp; done) | (simp; omega) | omega) _) | (with_reducible refine grow_drewN ?_ _) | (with_reducible refine grow_drew ?_) | (with_reducible refine grow_step ?_ (by assumption)) | (with_reducible refine grow_base ?_ (by assumption))))) (cmE_bd _ _ _)).mono ?_
    rintro e w3 ⟨rfl, hb3⟩
    have BZ3 := BZ.below hb3
    have BW3 := (BW2.alloc_ _).below hb3
    have cZ := BZ3.cell
    have cW := BW3.cell
    have lZ := BZ3.lt
    have lW := BW3.lt
    go_wp2_with fail
    clear cZ cW
    refine (rLast_any root A c l _ (HA.out.below (by repeat (first | (with_reducible exact grow_refl _) | (with_reducible assumption) | (with_reducible refine grow_alloc ?_ _) | (with_reducible refine grow_set ?_ (by first | exact Nat.le_refl _ | (simp; done) | (simp; omega) | omega) _) | (with_reducible refine grow_drewN ?_ _) | (with_reducible refine grow_drew ?_) | (with_reducible refine grow_step ?_ (by assumption)) | (with_reducible refine grow_base ?_ (by assumption))))) (by omega)).mono ?_
    rintro e w4 ⟨rfl, hb4⟩
    rw [HN.out]
    simp only
    go_wp2_with fail
    refine (last_any root A c l _ (HA.out.below (by repeat (first | (with_reducible exact grow_refl _) | (with_reducible assumption) | (with_reducible refine grow_alloc ?_ _) | (with_reducible refine grow_set ?_ (by first | exact Nat.le_refl _ | (simp; done) | (simp; omega) | omega) _) | (with_reducible refine grow_drewN ?_ _) | (with_reducible refine grow_drew ?_) | (with_reducible refine grow_step ?_ (by assumption)) | (with_reducible refine grow_base ?_ (by assumption))))) (by omega)).mono ?_
    rintro e w5 ⟨rfl, hb5⟩
    rw [HN.out]
    simp only
    go_wp2_with fail
    refine (error_any _ _ _ (HG.out.below (by repeat (first | (with_reducible exact grow_refl _) | (with_reducible assumption) | (with_reducible refine grow_alloc ?_ _) | (with_reducible refine grow_set ?_ (by first | exact Nat.le_refl _ | (simp; done) | (simp; omega) | omega) _) | (with_reducible refine grow_drewN ?_ _) | (with_reducible refine grow_drew ?_) | (with_reducible refine grow_step ?_ (by assumption)) | (with_reducible refine grow_base ?_ (by assumption))))) iE).mono ?_
    rintro e w6 ⟨rfl, hb6⟩
    go_wp2_with fail
    go_ret
    exact ⟨rfl, (by repeat (first | (with_reducible exact grow_refl _) | (with_reducible assumption) | (with_reducible refine grow_alloc ?_ _) | (with_reducible refine grow_set ?_ (by first | exact Nat.le_refl _ | (simp; done) | (simp; omega) | omega) _) | (with_reducible refine grow_drewN ?_ _) | (with_reducible refine grow_drew ?_) | (with_reducible refine grow_step ?_ (by assumption)) | (with_reducible refine grow_base ?_ (by assumption))))⟩

set_option maxRecDepth 100000 in
theorem certTells_walks (H : Type) (enc : TypeId × Value → H) : WalksD enc Tryd.prog Door 7 Tryd.f7 := by
  intro W base args ds p hval hA hlt hsz hsh hdoor
  have hsz0 := hsz
  rw [Tryd.params7] at hA hval
  obtain ⟨v0, vs0, d0, ds0, p0, q0, hargs, rfl, rfl, h0, r0⟩ := trodAll_cons hA
  obtain ⟨v1, vs1, d1, ds1, p1, q1, rfl, rfl, rfl, h1, r1⟩ := trodAll_cons r0
  obtain ⟨v2, vs2, d2, ds2, p2, q2, rfl, rfl, rfl, h2, r2⟩ := trodAll_cons r1
  obtain ⟨v3, vs3, d3, ds3, p3, q3, rfl, rfl, rfl, h3, r3⟩ := trodAll_cons r2
  obtain ⟨v4, vs4, d4, ds4, p4, q4, rfl, rfl, rfl, h4, r4⟩ := trodAll_cons r3
  obtain ⟨rfl, rfl, rfl⟩ := trodAll_nil r4
  obtain rfl : args = #[v0, v1, v2, v3, v4] := by cases args; simp_all
  obtain ⟨a0, rfl, w0⟩ := op_int (hval 0 3 v0 rfl rfl) h0
  obtain ⟨a1, rfl, w1⟩ := op_int (hval 1 3 v1 rfl rfl) h1
  obtain ⟨a2, rfl, w2⟩ := op_int (hval 2 3 v2 rfl rfl) h2
  obtain ⟨a3, rfl, w3⟩ := op_int (hval 3 3 v3 rfl rfl) h3
  obtain ⟨A4, a4, c4, rfl, w4, z4, y4⟩ := op_certs (hval 4 62 v4 rfl rfl) h4 (fun x hx => hlt x (by simp [hx])) (w_each hsz 4 62 _ (by rw [Tryd.params7]; rfl) rfl)
  exact certTells_walk W a0 a1 a2 a3 A4 a4 c4 w0 w1 w2 w3 w4 z4 y4 hdoor

set_option maxRecDepth 100000 in
theorem certTells_lifted (os : Os) (started : os.Started) (H : Type) (enc : TypeId × Value → H) :
    ReturnsInHanded {} Tryd.checked os 7 .any (fun w args => (Rows.certTellsSpec.pre enc Tryd.checked.prog Tryd.f7 [] false w args ∧ laidMetH Tryd.checked.prog LaidD w) ∧ sizedMet enc Tryd.checked.prog Tryd.f7 (OpenSpec.ofChange Rows.certTellsSpec) false w args) (Rows.certTellsSpec.post enc Tryd.checked.prog Tryd.f7 false true false false) :=
  returns_of_walkD (C := Tryd.checked) (s := Rows.certTellsSpec) (L := LaidD) (D := Door) own started (by kernel_rfl) Tryd.func7
    (ChangeSpec.witness_at (enc := enc) (C := Tryd.checked) (os := os) (X := fun w _ => laidMetH Tryd.prog LaidD w) false (laidWorld os) #[.int .i64 0, .int .i64 0, .int .i64 0, .int .i64 0, .slice none 0 0] 8 rfl (by kernel_rfl) (by kernel_rfl) (by kernel_rfl) (by kernel_rfl) (by kernel_rfl) (laidWorld_met os _))
    (fun W h => door_of_laid h) laidOut (by kernel_rfl) rfl Tryd.underlying4 rfl (fun ds h => by match ds, h with | [_, _, _, _, _], _ => rfl) (certTells_walks H enc)

theorem certTells_bare : Rows.CertTellsSaid :=
  OpenClaim.holds_of_wide 7 Tryd.f7 rfl rfl rfl rfl rfl rfl rfl ⟨rfl, rfl, rfl, rfl, rfl⟩ rfl rfl rfl rfl rfl (by kernel_rfl) Tryd.func7 (by kernel_rfl)
    (of_decide_eq_true (by kernel_rfl)) (by unfold Func.isWrapper; rw [if_neg (of_decide_eq_false (by kernel_rfl))]; exact ⟨rfl, rfl⟩)
    (fun os started H enc _ => certTells_lifted os started H enc)

theorem certTells_holds : Rows.CertTellsCardSaid :=
  Claim7.holds_tied_plain_at .later [] [.handle] true Rows.certTellsCard.stood.harness true
    certTells_bare (fun _ h => by cases h) (by kernel_rfl) (fun _ h => by cases h) certTells_row_tie rfl ⟨rfl, rfl⟩ (by kernel_rfl) rfl
    (fun f fn hf hfn => by
      obtain rfl : f = 7 := Option.some.inj ((show Tryd.prog.funcNamed "bootstair/stairlaw1.CertTells" = some 7 by kernel_rfl).symm.trans hf) |>.symm
      obtain rfl : fn = Tryd.f7 := (Option.some.inj (Tryd.func7.symm.trans hfn)).symm
      exact ⟨by kernel_rfl, fun j t ht => by
        have hm : t ∈ Tryd.f7.params.toList := by simpa using Array.mem_of_getElem? ht
        have hall : (Tryd.f7.params.toList.all fun u => !Tryd.prog.wantsStandIn u) = true := by kernel_rfl
        exact (show Tryd.prog.wantsStandIn t = false by simpa using List.all_eq_true.1 hall t hm)⟩)
    (by kernel_rfl)

end Go.Proofs.YtebecndmlgolpaaDoor
