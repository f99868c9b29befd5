/- RuleTells: what is wrong with any rules, whether any bank fits, and the mask: the program's is the reference's. The package variable errors.errorType holds what the program's text lays. -/
import Derived.Test.YtebecndmlgolpaaDoorRows
import Derived.Test.YtebecndmlgolpaaDoorOpen
import Derived.Test.YtebecndmlgolpaaDoorOpR
import Derived.Test.YtebecndmlgolpaaDoorRule2
import Derived.Test.YtebecndmlgolpaaDoorRefB
import Derived.Test.YtebecndmlgolpaaDoorRefR
import Derived.Test.YtebecndmlgolpaaDoorRefR2
import Derived.Test.YtebecndmlgolpaaDoorTold
import Derived.Test.YtebecndmlgolpaaDoorBds
import Derived.Test.YtebecndmlgolpaaDoorLiftD
import Derived.WalkKit
import Derived.Lib.Hide
import Derived.Deep.CutRange
import Derived.Deep.DeepCutAuto
namespace Go.Proofs.YtebecndmlgolpaaDoor
open Go.ChangeShapes Go.WideShapes Go.ChangeAt Go.RowKit
set_option linter.unusedVariables false
set_option maxRecDepth 100000

set_option maxHeartbeats 4000000 in
theorem ruleTells_walk (w : World) (A : Option Addr) (rs : List (Int × List Int)) (c : Nat) (x0 x1 x2 x3 x4 x5 x6 x7 : Int) (hA : RulesAt w A rs) (hz : rs.length * 32 ≤ 140737488351232) (hc : rs.length ≤ c) (hgl : ∀ r ∈ rs, r.2.length * 8 ≤ 140737488351232) (hg : Door w) :
    Calls Tryd.prog 6 #[.slice A rs.length c, .agg #[.int .i64 x0, .int .i64 x1, .int .i64 x2, .int .i64 x3, .int .i64 x4, .int .i64 x5, .int .i64 x6, .int .i64 x7]] w fun e w' => e = .returned (.bool true) ∧ Below w.heap.size w w' := by
  have HG := Lib.hid hg
  have HA := Lib.hid hA
  have HL : Hid (∀ r ∈ rs, r.2.length ≤ 9223372036854775806) := Lib.hid (fun r hr => by have := hgl r hr; omega)
  have HN := Lib.hid (Box.new w 47 #[.int .i64 x0, .int .i64 x1, .int .i64 x2, .int .i64 x3, .int .i64 x4, .int .i64 x5, .int .i64 x6, .int .i64 x7])
  obtain ⟨E, hE⟩ : ∃ E, rulesE rs = E := ⟨_, rfl⟩
  have iE : I64 E := by rw [← hE]; exact rulesE_bd rs
  have HE := Lib.hid hE
  clear hg hA hgl hE
  go_enter Tryd.func6, Tryd.ntmps6
  go_wp2_with fail
  refine (rRules_any A c rs _ (HA.out.below (by repeat (first | (with_reducible exact grow_refl _) | (with_reducible assumption) | (with_reducible refine grow_alloc ?_ _) | (with_reducible refine grow_set ?_ (by first | exact Nat.le_refl _ | (simp; done) | (simp; omega) | omega) _) | (with_reducible refine grow_drewN ?_ _) | (with_reducible refine grow_drew ?_) | (with_reducible refine grow_step ?_ (by assumption)) | (with_reducible refine grow_base ?_ (by assumption))))) (by omega) HL.out).mono ?_
  rintro e w1 ⟨rfl, hb1⟩
  rw [HE.out]
  have BB1 := Lib.hid (HN.out.below hb1)
  go_wp2_with fail
  refine (ruleCheck_any A c rs _ (HA.out.below (by repeat (first | (with_reducible exact grow_refl _) | (with_reducible assumption) | (with_reducible refine grow_alloc ?_ _) | (with_reducible refine grow_set ?_ (by first | exact Nat.le_refl _ | (simp; done) | (simp; omega) | omega) _) | (with_reducible refine grow_drewN ?_ _) | (with_reducible refine grow_drew ?_) | (with_reducible refine grow_step ?_ (by assumption)) | (with_reducible refine grow_base ?_ (by assumption))))) hc (by omega) HL.out).mono ?_
  rintro e w2 ⟨rfl, hb2⟩
  rw [HE.out]
  have BB2 := Lib.hid (BB1.out.below hb2)
  go_wp2_with fail
  refine (error_any _ _ _ (HG.out.below (by repeat (first | (with_reducible exact grow_refl _) | (with_reducible assumption) | (with_reducible refine grow_alloc ?_ _) | (with_reducible refine grow_set ?_ (by first | exact Nat.le_refl _ | (simp; done) | (simp; omega) | omega) _) | (with_reducible refine grow_drewN ?_ _) | (with_reducible refine grow_drew ?_) | (with_reducible refine grow_step ?_ (by assumption)) | (with_reducible refine grow_base ?_ (by assumption))))) iE).mono ?_
  rintro e w3 ⟨rfl, hb3⟩
  have BB3 := Lib.hid (BB2.out.below hb3)
  go_upto_if 21 with fail
  go_cut [7] (fun n wx => n = .int .i64 (maskM rs) ∧ Below w.heap.size w wx ∧ Hid (Box wx w.heap.size 47 #[.int .i64 x0, .int .i64 x1, .int .i64 x2, .int .i64 x3, .int .i64 x4, .int .i64 x5, .int .i64 x6, .int .i64 x7]))
  case first =>
    by_cases h0 : E = 0
    · have t : (E == 0) = true := by simp [h0]
      have H0 : Hid (rulesE rs = 0) := Lib.hid (HE.out.trans h0)
      have HM : Hid (maskM rs = (askN rs : Int)) := Lib.hid (by unfold maskM; rw [if_pos H0.out])
      clear h0
      go_wp2_with fail
      refine (rMask_any A c rs _ (HA.out.below (by repeat (first | (with_reducible exact grow_refl _) | (with_reducible assumption) | (with_reducible refine grow_alloc ?_ _) | (with_reducible refine grow_set ?_ (by first | exact Nat.le_refl _ | (simp; done) | (simp; omega) | omega) _) | (with_reducible refine grow_drewN ?_ _) | (with_reducible refine grow_drew ?_) | (with_reducible refine grow_step ?_ (by assumption)) | (with_reducible refine grow_base ?_ (by assumption))))) H0.out).mono ?_
      rintro e w4 ⟨rfl, hb4⟩
      have BB4 := Lib.hid (BB3.out.below hb4)
      go_wp2_with fail
      go_meet
      exact ⟨by rw [HM.out], (by repeat (first | (with_reducible exact grow_refl _) | (with_reducible assumption) | (with_reducible refine grow_alloc ?_ _) | (with_reducible refine grow_set ?_ (by first | exact Nat.le_refl _ | (simp; done) | (simp; omega) | omega) _) | (with_reducible refine grow_drewN ?_ _) | (with_reducible refine grow_drew ?_) | (with_reducible refine grow_step ?_ (by assumption)) | (with_reducible refine grow_base ?_ (by assumption)))), BB4⟩
    · have t : (E == 0) = false := by simpa using h0
      have HM : Hid (maskM rs = 0) := Lib.hid (by unfold maskM; rw [if_neg (by rw [HE.out]; exact h0)])
      clear h0
      go_wp2_with fail
      go_meet
      exact ⟨by rw [HM.out], (by repeat (first | (with_reducible exact grow_refl _) | (with_reducible assumption) | (with_reducible refine grow_alloc ?_ _) | (with_reducible refine grow_set ?_ (by first | exact Nat.le_refl _ | (simp; done) | (simp; omega) | omega) _) | (with_reducible refine grow_drewN ?_ _) | (with_reducible refine grow_drew ?_) | (with_reducible refine grow_step ?_ (by assumption)) | (with_reducible refine grow_base ?_ (by assumption)))), BB3⟩
  case rest =>
    obtain ⟨rfl, hb5, BB5⟩ := hcut
    go_wp2_with fail
    refine (ruleMask_any A c rs _ (HA.out.below (by repeat (first | (with_reducible exact grow_refl _) | (with_reducible assumption) | (with_reducible refine grow_alloc ?_ _) | (with_reducible refine grow_set ?_ (by first | exact Nat.le_refl _ | (simp; done) | (simp; omega) | omega) _) | (with_reducible refine grow_drewN ?_ _) | (with_reducible refine grow_drew ?_) | (with_reducible refine grow_step ?_ (by assumption)) | (with_reducible refine grow_base ?_ (by assumption))))) hc (by omega) HL.out).mono ?_
    rintro e w6 ⟨rfl, hb6⟩
    rw [HE.out]
    have BB6 := Lib.hid (BB5.out.below hb6)
    go_wp2_with fail
    refine (error_any _ _ _ (HG.out.below (by repeat (first | (with_reducible exact grow_refl _) | (with_reducible assumption) | (with_reducible refine grow_alloc ?_ _) | (with_reducible refine grow_set ?_ (by first | exact Nat.le_refl _ | (simp; done) | (simp; omega) | omega) _) | (with_reducible refine grow_drewN ?_ _) | (with_reducible refine grow_drew ?_) | (with_reducible refine grow_step ?_ (by assumption)) | (with_reducible refine grow_base ?_ (by assumption))))) iE).mono ?_
    rintro e w7 ⟨rfl, hb7⟩
    have BB7 := Lib.hid (BB6.out.below hb7)
    go_upto_if 38 with fail
    go_cut [5] (fun e wx => e = .int .i64 (fitsE rs [x0, x1, x2, x3, x4, x5, x6, x7]) ∧ Below w.heap.size w wx ∧ Hid (Box wx w.heap.size 47 #[.int .i64 x0, .int .i64 x1, .int .i64 x2, .int .i64 x3, .int .i64 x4, .int .i64 x5, .int .i64 x6, .int .i64 x7]))
    case first =>
      by_cases h0 : E = 0
      · have t : (E == 0) = true := by simp [h0]
        have HM : Hid (fitsE rs [x0, x1, x2, x3, x4, x5, x6, x7] = bankE [x0, x1, x2, x3, x4, x5, x6, x7]) := Lib.hid (by unfold fitsE; rw [if_pos (HE.out.trans h0)])
        clear h0
        have cB := BB7.out.cell
        have lB := BB7.out.lt
        go_wp2_with fail
        clear cB lB
        refine (rBank_any x0 x1 x2 x3 x4 x5 x6 x7 _).mono ?_
        rintro e w8 ⟨rfl, hb8⟩
        have BB8 := Lib.hid (BB7.out.below hb8)
        go_wp2_with fail
        go_meet
        exact ⟨by rw [HM.out], (by repeat (first | (with_reducible exact grow_refl _) | (with_reducible assumption) | (with_reducible refine grow_alloc ?_ _) | (with_reducible refine grow_set ?_ (by first | exact Nat.le_refl _ | (simp; done) | (simp; omega) | omega) _) | (with_reducible refine grow_drewN ?_ _) | (with_reducible refine grow_drew ?_) | (with_reducible refine grow_step ?_ (by assumption)) | (with_reducible refine grow_base ?_ (by assumption)))), BB8⟩
      · have t : (E == 0) = false := by simpa using h0
        have HM : Hid (fitsE rs [x0, x1, x2, x3, x4, x5, x6, x7] = E) := Lib.hid (by unfold fitsE; rw [if_neg (by rw [HE.out]; exact h0), HE.out])
        clear h0
        go_wp2_with fail
        go_meet
        exact ⟨by rw [HM.out], (by repeat (first | (with_reducible exact grow_refl _) | (with_reducible assumption) | (with_reducible refine grow_alloc ?_ _) | (with_reducible refine grow_set ?_ (by first | exact Nat.le_refl _ | (simp; done) | (simp; omega) | omega) _) | (with_reducible refine grow_drewN ?_ _) | (with_reducible refine grow_drew ?_) | (with_reducible refine grow_step ?_ (by assumption)) | (with_reducible refine grow_base ?_ (by assumption)))), BB7⟩
    case rest =>
    obtain ⟨rfl, hb9, BB9⟩ := hcut
    obtain ⟨G, hG⟩ : ∃ G, fitsE rs [x0, x1, x2, x3, x4, x5, x6, x7] = G := ⟨_, rfl⟩
    have iG : I64 G := by rw [← hG]; exact fitsE_bd _ _
    rw [hG]
    have HGG := Lib.hid hG
    clear hG
    have cB := BB9.out.cell
    have lB := BB9.out.lt
    go_upto_region 10 with fail
    go_cut [11] (fun t wx => t = .bool (fitsB rs [x0, x1, x2, x3, x4, x5, x6, x7]) ∧ Below w.heap.size w wx ∧ Hid (Box wx w.heap.size 47 #[.int .i64 x0, .int .i64 x1, .int .i64 x2, .int .i64 x3, .int .i64 x4, .int .i64 x5, .int .i64 x6, .int .i64 x7]))
    case first =>
      by_cases h0 : G = 0
      · have t : (G == 0) = true := by simp [h0]
        have h1 : rulesE rs = 0 ∧ ([x0, x1, x2, x3, x4, x5, x6, x7]).all okM = true := by
          have h := HGG.out
          unfold fitsE at h
          by_cases h2 : rulesE rs = 0
          · rw [if_pos h2] at h
            refine ⟨h2, ?_⟩
            cases h3 : ([x0, x1, x2, x3, x4, x5, x6, x7]).all okM
            · rw [bankE_no h3] at h; omega
            · rfl
          · rw [if_neg h2] at h; omega
        have H1 := Lib.hid h1
        have HM : Hid (fitsB rs [x0, x1, x2, x3, x4, x5, x6, x7] = fitM rs [x0, x1, x2, x3, x4, x5, x6, x7]) := Lib.hid (by unfold fitsB; rw [h1.2, h1.1]; rfl)
        clear h0 h1
        go_wp2_with fail
        refine (rFits_any A c rs x0 x1 x2 x3 x4 x5 x6 x7 _ (HA.out.below (by repeat (first | (with_reducible exact grow_refl _) | (with_reducible assumption) | (with_reducible refine grow_alloc ?_ _) | (with_reducible refine grow_set ?_ (by first | exact Nat.le_refl _ | (simp; done) | (simp; omega) | omega) _) | (with_reducible refine grow_drewN ?_ _) | (with_reducible refine grow_drew ?_) | (with_reducible refine grow_step ?_ (by assumption)) | (with_reducible refine grow_base ?_ (by assumption))))) H1.out.1).mono ?_
        rintro e w8 ⟨rfl, hb8⟩
        have BB8 := Lib.hid (BB9.out.below hb8)
        go_wp2_with fail
        go_meet
        exact ⟨by rw [HM.out], (by repeat (first | (with_reducible exact grow_refl _) | (with_reducible assumption) | (with_reducible refine grow_alloc ?_ _) | (with_reducible refine grow_set ?_ (by first | exact Nat.le_refl _ | (simp; done) | (simp; omega) | omega) _) | (with_reducible refine grow_drewN ?_ _) | (with_reducible refine grow_drew ?_) | (with_reducible refine grow_step ?_ (by assumption)) | (with_reducible refine grow_base ?_ (by assumption)))), BB8⟩
      · have t : (G == 0) = false := by simpa using h0
        have HM : Hid (fitsB rs [x0, x1, x2, x3, x4, x5, x6, x7] = false) := Lib.hid (by
          unfold fitsB
          have h := HGG.out
          unfold fitsE at h
          by_cases h2 : rulesE rs = 0
          · rw [if_pos h2] at h
            cases h3 : ([x0, x1, x2, x3, x4, x5, x6, x7]).all okM
            · simp
            · rw [bankE_yes h3] at h; omega
          · simp [h2])
        clear h0
        go_wp2_with fail
        go_meet
        exact ⟨by rw [HM.out], (by repeat (first | (with_reducible exact grow_refl _) | (with_reducible assumption) | (with_reducible refine grow_alloc ?_ _) | (with_reducible refine grow_set ?_ (by first | exact Nat.le_refl _ | (simp; done) | (simp; omega) | omega) _) | (with_reducible refine grow_drewN ?_ _) | (with_reducible refine grow_drew ?_) | (with_reducible refine grow_step ?_ (by assumption)) | (with_reducible refine grow_base ?_ (by assumption)))), BB9⟩
    case rest =>
    obtain ⟨rfl, hb10, BB10⟩ := hcut
    clear cB lB
    have cB := BB10.out.cell
    have lB := BB10.out.lt
    go_wp2_with fail
    clear cB lB
    refine (fits_any A c rs x0 x1 x2 x3 x4 x5 x6 x7 _ (HA.out.below (by repeat (first | (with_reducible exact grow_refl _) | (with_reducible assumption) | (with_reducible refine grow_alloc ?_ _) | (with_reducible refine grow_set ?_ (by first | exact Nat.le_refl _ | (simp; done) | (simp; omega) | omega) _) | (with_reducible refine grow_drewN ?_ _) | (with_reducible refine grow_drew ?_) | (with_reducible refine grow_step ?_ (by assumption)) | (with_reducible refine grow_base ?_ (by assumption))))) hc (by omega) HL.out).mono ?_
    rintro e w11 ⟨rfl, hb11⟩
    rw [HGG.out]
    go_wp2_with fail
    refine (error_any _ _ _ (HG.out.below (by repeat (first | (with_reducible exact grow_refl _) | (with_reducible assumption) | (with_reducible refine grow_alloc ?_ _) | (with_reducible refine grow_set ?_ (by first | exact Nat.le_refl _ | (simp; done) | (simp; omega) | omega) _) | (with_reducible refine grow_drewN ?_ _) | (with_reducible refine grow_drew ?_) | (with_reducible refine grow_step ?_ (by assumption)) | (with_reducible refine grow_base ?_ (by assumption))))) iG).mono ?_
    rintro e w12 ⟨rfl, hb12⟩
    go_wp2_with fail
    go_ret
    exact ⟨rfl, (by repeat (first | (with_reducible exact grow_refl _) | (with_reducible assumption) | (with_reducible refine grow_alloc ?_ _) | (with_reducible refine grow_set ?_ (by first | exact Nat.le_refl _ | (simp; done) | (simp; omega) | omega) _) | (with_reducible refine grow_drewN ?_ _) | (with_reducible refine grow_drew ?_) | (with_reducible refine grow_step ?_ (by assumption)) | (with_reducible refine grow_base ?_ (by assumption))))⟩

set_option maxRecDepth 100000 in
theorem ruleTells_walks (H : Type) (enc : TypeId × Value → H) : WalksD enc Tryd.prog Door 6 Tryd.f6 := by
  intro W base args ds p hval hA hlt hsz hsh hdoor
  have hsz0 := hsz
  rw [Tryd.params6] at hA hval
  obtain ⟨v0, vs0, d0, ds0, p0, q0, hargs, rfl, rfl, h0, r0⟩ := trodAll_cons hA
  obtain ⟨v1, vs1, d1, ds1, p1, q1, rfl, rfl, rfl, h1, r1⟩ := trodAll_cons r0
  obtain ⟨rfl, rfl, rfl⟩ := trodAll_nil r1
  obtain rfl : args = #[v0, v1] := by cases args; simp_all
  obtain ⟨A0, a0, c0, rfl, w0, z0, y0, g0⟩ := op_rules (hval 0 55 v0 rfl rfl) h0 (fun x hx => hlt x (by simp [hx])) (w_each hsz 0 55 _ (by rw [Tryd.params6]; rfl) rfl)
  obtain ⟨x10, x11, x12, x13, x14, x15, x16, x17, rfl, i10, i11, i12, i13, i14, i15, i16, i17⟩ := op_bank (hval 1 47 v1 rfl rfl)
  exact ruleTells_walk W A0 a0 c0 x10 x11 x12 x13 x14 x15 x16 x17 w0 z0 y0 g0 hdoor

set_option maxRecDepth 100000 in
theorem ruleTells_lifted (os : Os) (started : os.Started) (H : Type) (enc : TypeId × Value → H) :
    ReturnsInHanded {} Tryd.checked os 6 .any (fun w args => (Rows.ruleTellsSpec.pre enc Tryd.checked.prog Tryd.f6 [] false w args ∧ laidMetH Tryd.checked.prog LaidD w) ∧ sizedMet enc Tryd.checked.prog Tryd.f6 (OpenSpec.ofChange Rows.ruleTellsSpec) false w args) (Rows.ruleTellsSpec.post enc Tryd.checked.prog Tryd.f6 false true false false) :=
  returns_of_walkD (C := Tryd.checked) (s := Rows.ruleTellsSpec) (L := LaidD) (D := Door) own started (by kernel_rfl) Tryd.func6
    (ChangeSpec.witness_at (enc := enc) (C := Tryd.checked) (os := os) (X := fun w _ => laidMetH Tryd.prog LaidD w) false (laidWorld os) #[.slice none 0 0, .agg #[.int .i64 0, .int .i64 0, .int .i64 0, .int .i64 0, .int .i64 0, .int .i64 0, .int .i64 0, .int .i64 0]] 8 rfl (by kernel_rfl) (by kernel_rfl) (by kernel_rfl) (by kernel_rfl) (by kernel_rfl) (laidWorld_met os _))
    (fun W h => door_of_laid h) laidOut (by kernel_rfl) rfl Tryd.underlying4 rfl (fun ds h => by match ds, h with | [_, _], _ => rfl) (ruleTells_walks H enc)

theorem ruleTells_bare : Rows.RuleTellsSaid :=
  OpenClaim.holds_of_wide 6 Tryd.f6 rfl rfl rfl rfl rfl rfl rfl ⟨rfl, rfl, rfl, rfl, rfl⟩ rfl rfl rfl rfl rfl (by kernel_rfl) Tryd.func6 (by kernel_rfl)
    (of_decide_eq_true (by kernel_rfl)) (by unfold Func.isWrapper; rw [if_neg (of_decide_eq_false (by kernel_rfl))]; exact ⟨rfl, rfl⟩)
    (fun os started H enc _ => ruleTells_lifted os started H enc)

theorem ruleTells_holds : Rows.RuleTellsCardSaid :=
  Claim7.holds_tied_plain_at .later [] [.handle] true Rows.ruleTellsCard.stood.harness true
    ruleTells_bare (fun _ h => by cases h) (by kernel_rfl) (fun _ h => by cases h) ruleTells_row_tie rfl ⟨rfl, rfl⟩ (by kernel_rfl) rfl
    (fun f fn hf hfn => by
      obtain rfl : f = 6 := Option.some.inj ((show Tryd.prog.funcNamed "bootstair/stairlaw1.RuleTells" = some 6 by kernel_rfl).symm.trans hf) |>.symm
      obtain rfl : fn = Tryd.f6 := (Option.some.inj (Tryd.func6.symm.trans hfn)).symm
      exact ⟨by kernel_rfl, fun j t ht => by
        have hm : t ∈ Tryd.f6.params.toList := by simpa using Array.mem_of_getElem? ht
        have hall : (Tryd.f6.params.toList.all fun u => !Tryd.prog.wantsStandIn u) = true := by kernel_rfl
        exact (show Tryd.prog.wantsStandIn t = false by simpa using List.all_eq_true.1 hall t hm)⟩)
    (by kernel_rfl)

end Go.Proofs.YtebecndmlgolpaaDoor
