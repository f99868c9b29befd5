/- JudgeTells: what is wrong with any quote, events and rules, held together: the program's is the reference's. The package variable errors.errorType holds what the program's text lays. -/
import Derived.Test.YtdjeajhkpkphbaaDoorRows
import Derived.Test.YtdjeajhkpkphbaaDoorOpen
import Derived.Test.YtdjeajhkpkphbaaDoorOpE
import Derived.Test.YtdjeajhkpkphbaaDoorOpR
import Derived.Test.YtdjeajhkpkphbaaDoorOpS
import Derived.Test.YtdjeajhkpkphbaaDoorJudge
import Derived.Test.YtdjeajhkpkphbaaDoorRefS
import Derived.Test.YtdjeajhkpkphbaaDoorTold
import Derived.Test.YtdjeajhkpkphbaaDoorBds
import Derived.Test.YtdjeajhkpkphbaaDoorLiftD
import Derived.WalkKit
import Derived.Lib.Hide
import Derived.Deep.CutRange
import Derived.Deep.DeepCutAuto
namespace Go.Proofs.YtdjeajhkpkphbaaDoor
open Go.ChangeShapes Go.WideShapes Go.ChangeAt Go.RowKit
set_option linter.unusedVariables false
set_option maxRecDepth 100000

theorem qcE_bd (q n m d p a c : Int) : I64 (qcE q n m d p a c) := by
  unfold qcE; split
  · split
    · split <;> exact i64_small (by decide) (by decide)
    · exact rightE_bd _ _ _ _
  · exact i64_small (by decide) (by decide)
theorem sureE_bd (q n m d p a c : Int) (es : List (Int × Int)) (rs : List (Int × List Int)) : I64 (sureE q n m d p a c es rs) := by
  unfold sureE sureT
  by_cases h1 : qcE q n m d p a c = 0
  · rw [if_pos h1]
    by_cases h2 : evE es = 0
    · rw [if_pos h2]
      by_cases h3 : rulesE rs = 0
      · rw [if_pos h3]
        by_cases h4 : isM (evBank es) m = d
        · rw [if_pos h4]
          by_cases h5 : askedB m rs = true
          · rw [if_pos h5]
            by_cases h6 : fitM rs (evBank es) = true
            · rw [if_pos h6]; exact i64_small (by decide) (by decide)
            · rw [if_neg h6]; exact i64_small (by decide) (by decide)
          · rw [if_neg h5]; exact i64_small (by decide) (by decide)
        · rw [if_neg h4]; exact i64_small (by decide) (by decide)
      · rw [if_neg h3]; exact rulesE_bd _
    · rw [if_neg h2]; exact evE_bd _
  · rw [if_neg h1]; exact qcE_bd _ _ _ _ _ _ _

set_option maxHeartbeats 2000000 in
theorem judgeTells_walk (w : World) (q : Int) (n m d p a : Int) (c : Int) (A : Option Addr) (es : List (Int × Int)) (ec : Nat) (A2 : Option Addr) (rs : List (Int × List Int)) (rc : Nat) (i0 : I64 q) (j1 : I64 n) (j2 : I64 m) (j3 : I64 d) (j4 : I64 p) (j5 : I64 a) (io : I64 c)
    (hA : EvsAt w A es) (hz : es.length * 16 ≤ 140737488351232) (hc : es.length ≤ ec) (hR : RulesAt w A2 rs) (hzr : rs.length * 32 ≤ 140737488351232) (hrc : rs.length ≤ rc) (hgl : ∀ r ∈ rs, r.2.length * 8 ≤ 140737488351232) (hg : Door w) :
    Calls Tryd.prog 5 #[.int .i64 q, .agg #[.int .i64 n, .int .i64 m, .int .i64 d, .int .i64 p, .int .i64 a], .int .i64 c, .slice A es.length ec, .slice A2 rs.length rc] w fun e w' => e = .returned (.bool true) ∧ Below w.heap.size w w' := by
  have HG := Lib.hid hg
  have HA := Lib.hid hA
  have HR := Lib.hid hR
  have HL : Hid (∀ s ∈ rs, s.2.length ≤ 9223372036854775806) := Lib.hid (fun s hs => by have := hgl s hs; omega)
  have HN := Lib.hid (Box.new w 41 #[.int .i64 n, .int .i64 m, .int .i64 d, .int .i64 p, .int .i64 a])
  obtain ⟨E, hE⟩ : ∃ E, sureE q n m d p a c es rs = E := ⟨_, rfl⟩
  have iE : I64 E := by rw [← hE]; exact sureE_bd _ _ _ _ _ _ _ _ _
  have HE := Lib.hid hE
  clear hg hA hR hgl hE
  go_enter Tryd.func5, Tryd.ntmps5
  go_wp2_with fail
  refine (rSure_any q n m d p a c A es ec A2 rs rc _ (HA.out.below (by repeat (first | (with_reducible exact grow_refl _) | (with_reducible assumption) | (with_reducible refine grow_alloc ?_ _) | (with_reducible refine grow_set ?_ (by first | exact Nat.le_refl _ | (simp; done) | (simp; omega) | omega) _) | (with_reducible refine grow_drewN ?_ _) | (with_reducible refine grow_drew ?_) | (with_reducible refine grow_step ?_ (by assumption)) | (with_reducible refine grow_base ?_ (by assumption))))) (by omega) (HR.out.below (by repeat (first | (with_reducible exact grow_refl _) | (with_reducible assumption) | (with_reducible refine grow_alloc ?_ _) | (with_reducible refine grow_set ?_ (by first | exact Nat.le_refl _ | (simp; done) | (simp; omega) | omega) _) | (with_reducible refine grow_drewN ?_ _) | (with_reducible refine grow_drew ?_) | (with_reducible refine grow_step ?_ (by assumption)) | (with_reducible refine grow_base ?_ (by assumption))))) (by omega) HL.out).mono ?_
  rintro e w1 ⟨rfl, hb1⟩
  rw [HE.out]
  have B1 := Lib.hid (HN.out.below hb1)
  have cQ := B1.out.cell
  have lQ := B1.out.lt
  go_wp2_with fail
  clear cQ
  refine (judgeSure_any q n m d p a c A es ec A2 rs rc _ (HA.out.below (by repeat (first | (with_reducible exact grow_refl _) | (with_reducible assumption) | (with_reducible refine grow_alloc ?_ _) | (with_reducible refine grow_set ?_ (by first | exact Nat.le_refl _ | (simp; done) | (simp; omega) | omega) _) | (with_reducible refine grow_drewN ?_ _) | (with_reducible refine grow_drew ?_) | (with_reducible refine grow_step ?_ (by assumption)) | (with_reducible refine grow_base ?_ (by assumption))))) (by omega) (HR.out.below (by repeat (first | (with_reducible exact grow_refl _) | (with_reducible assumption) | (with_reducible refine grow_alloc ?_ _) | (with_reducible refine grow_set ?_ (by first | exact Nat.le_refl _ | (simp; done) | (simp; omega) | omega) _) | (with_reducible refine grow_drewN ?_ _) | (with_reducible refine grow_drew ?_) | (with_reducible refine grow_step ?_ (by assumption)) | (with_reducible refine grow_base ?_ (by assumption))))) hrc (by omega) HL.out).mono ?_
  rintro e w2 ⟨rfl, hb2⟩
  rw [HE.out]
  go_wp2_with fail
  refine (error_any _ _ _ (HG.out.below (by repeat (first | (with_reducible exact grow_refl _) | (with_reducible assumption) | (with_reducible refine grow_alloc ?_ _) | (with_reducible refine grow_set ?_ (by first | exact Nat.le_refl _ | (simp; done) | (simp; omega) | omega) _) | (with_reducible refine grow_drewN ?_ _) | (with_reducible refine grow_drew ?_) | (with_reducible refine grow_step ?_ (by assumption)) | (with_reducible refine grow_base ?_ (by assumption))))) iE).mono ?_
  rintro e w3 ⟨rfl, hb3⟩
  go_wp2_with fail
  go_ret
  exact ⟨rfl, (by repeat (first | (with_reducible exact grow_refl _) | (with_reducible assumption) | (with_reducible refine grow_alloc ?_ _) | (with_reducible refine grow_set ?_ (by first | exact Nat.le_refl _ | (simp; done) | (simp; omega) | omega) _) | (with_reducible refine grow_drewN ?_ _) | (with_reducible refine grow_drew ?_) | (with_reducible refine grow_step ?_ (by assumption)) | (with_reducible refine grow_base ?_ (by assumption))))⟩

set_option maxRecDepth 100000 in
theorem judgeTells_walks (H : Type) (enc : TypeId × Value → H) : WalksD enc Tryd.prog Door 5 Tryd.f5 := by
  intro W base args ds p hval hA hlt hsz hsh hdoor
  have hsz0 := hsz
  rw [Tryd.params5] at hA hval
  obtain ⟨v0, vs0, d0, ds0, p0, q0, hargs, rfl, rfl, h0, r0⟩ := trodAll_cons hA
  obtain ⟨v1, vs1, d1, ds1, p1, q1, rfl, rfl, rfl, h1, r1⟩ := trodAll_cons r0
  obtain ⟨v2, vs2, d2, ds2, p2, q2, rfl, rfl, rfl, h2, r2⟩ := trodAll_cons r1
  obtain ⟨v3, vs3, d3, ds3, p3, q3, rfl, rfl, rfl, h3, r3⟩ := trodAll_cons r2
  obtain ⟨v4, vs4, d4, ds4, p4, q4, rfl, rfl, rfl, h4, r4⟩ := trodAll_cons r3
  obtain ⟨rfl, rfl, rfl⟩ := trodAll_nil r4
  obtain rfl : args = #[v0, v1, v2, v3, v4] := by cases args; simp_all
  obtain ⟨a0, rfl, w0⟩ := op_int (hval 0 3 v0 rfl rfl) h0
  obtain ⟨s10, s11, s12, s13, s14, rfl, q10, q11, q12, q13, q14⟩ := op_quote (hval 1 41 v1 rfl rfl)
  obtain ⟨a2, rfl, w2⟩ := op_int (hval 2 3 v2 rfl rfl) h2
  obtain ⟨A3, a3, c3, rfl, w3, z3, y3⟩ := op_evs (hval 3 54 v3 rfl rfl) h3 (fun x hx => hlt x (by simp [hx])) (w_each hsz 3 54 _ (by rw [Tryd.params5]; rfl) rfl)
  obtain ⟨A4, a4, c4, rfl, w4, z4, y4, g4⟩ := op_rules (hval 4 55 v4 rfl rfl) h4 (fun x hx => hlt x (by simp [hx])) (w_each hsz 4 55 _ (by rw [Tryd.params5]; rfl) rfl)
  exact judgeTells_walk W a0 s10 s11 s12 s13 s14 a2 A3 a3 c3 A4 a4 c4 w0 q10 q11 q12 q13 q14 w2 w3 z3 y3 w4 z4 y4 g4 hdoor

set_option maxRecDepth 100000 in
theorem judgeTells_lifted (os : Os) (started : os.Started) (H : Type) (enc : TypeId × Value → H) :
    ReturnsInHanded {} Tryd.checked os 5 .any (fun w args => (Rows.judgeTellsSpec.pre enc Tryd.checked.prog Tryd.f5 [] false w args ∧ laidMetH Tryd.checked.prog LaidD w) ∧ sizedMet enc Tryd.checked.prog Tryd.f5 (OpenSpec.ofChange Rows.judgeTellsSpec) false w args) (Rows.judgeTellsSpec.post enc Tryd.checked.prog Tryd.f5 false true false false) :=
  returns_of_walkD (C := Tryd.checked) (s := Rows.judgeTellsSpec) (L := LaidD) (D := Door) own started (by kernel_rfl) Tryd.func5
    (ChangeSpec.witness_at (enc := enc) (C := Tryd.checked) (os := os) (X := fun w _ => laidMetH Tryd.prog LaidD w) false (laidWorld os) #[.int .i64 0, .agg #[.int .i64 0, .int .i64 0, .int .i64 0, .int .i64 0, .int .i64 0], .int .i64 0, .slice none 0 0, .slice none 0 0] 8 rfl (by kernel_rfl) (by kernel_rfl) (by kernel_rfl) (by kernel_rfl) (by kernel_rfl) (laidWorld_met os _))
    (fun W h => door_of_laid h) laidOut (by kernel_rfl) rfl Tryd.underlying4 rfl (fun ds h => by match ds, h with | [_, _, _, _, _], _ => rfl) (judgeTells_walks H enc)

theorem judgeTells_bare : Rows.JudgeTellsSaid :=
  OpenClaim.holds_of_wide 5 Tryd.f5 rfl rfl rfl rfl rfl rfl rfl ⟨rfl, rfl, rfl, rfl, rfl⟩ rfl rfl rfl rfl rfl (by kernel_rfl) Tryd.func5 (by kernel_rfl)
    (of_decide_eq_true (by kernel_rfl)) (by unfold Func.isWrapper; rw [if_neg (of_decide_eq_false (by kernel_rfl))]; exact ⟨rfl, rfl⟩)
    (fun os started H enc _ => judgeTells_lifted os started H enc)

theorem judgeTells_holds : Rows.JudgeTellsCardSaid :=
  Claim7.holds_tied_plain_at .later [] [.handle] true Rows.judgeTellsCard.stood.harness true
    judgeTells_bare (fun _ h => by cases h) (by kernel_rfl) (fun _ h => by cases h) judgeTells_row_tie rfl ⟨rfl, rfl⟩ (by kernel_rfl) rfl
    (fun f fn hf hfn => by
      obtain rfl : f = 5 := Option.some.inj ((show Tryd.prog.funcNamed "bootstair/stairlaw2.JudgeTells" = some 5 by kernel_rfl).symm.trans hf) |>.symm
      obtain rfl : fn = Tryd.f5 := (Option.some.inj (Tryd.func5.symm.trans hfn)).symm
      exact ⟨by kernel_rfl, fun j t ht => by
        have hm : t ∈ Tryd.f5.params.toList := by simpa using Array.mem_of_getElem? ht
        have hall : (Tryd.f5.params.toList.all fun u => !Tryd.prog.wantsStandIn u) = true := by kernel_rfl
        exact (show Tryd.prog.wantsStandIn t = false by simpa using List.all_eq_true.1 hall t hm)⟩)
    (by kernel_rfl)

end Go.Proofs.YtdjeajhkpkphbaaDoor
