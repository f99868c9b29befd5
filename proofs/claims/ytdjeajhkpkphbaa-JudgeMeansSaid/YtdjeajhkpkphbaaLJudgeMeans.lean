/- JudgeMeans: what is judged sure tells of the bank that the events come to, fits the rules, and is asked for now; what is made and is not sure lacks one of them. -/
import Derived.Test.YtdjeajhkpkphbaaRows
import Derived.Test.YtdjeajhkpkphbaaOpen
import Derived.Test.YtdjeajhkpkphbaaOpE
import Derived.Test.YtdjeajhkpkphbaaOpR2
import Derived.Test.YtdjeajhkpkphbaaOpenS
import Derived.Test.YtdjeajhkpkphbaaOpS
import Derived.Test.YtdjeajhkpkphbaaEvent2
import Derived.Test.YtdjeajhkpkphbaaRule2
import Derived.Test.YtdjeajhkpkphbaaRefB
import Derived.Test.YtdjeajhkpkphbaaJudge
import Derived.Test.YtdjeajhkpkphbaaQtPlain
import Derived.WalkKit
import Derived.Lib.Hide
import Derived.Deep.CutRange
import Derived.Deep.DeepCutAuto
namespace Go.Proofs.Ytdjeajhkpkphbaa
open Go.ChangeShapes Go.WideShapes Go.ChangeAt Go.RowKit
set_option linter.unusedVariables false
set_option maxRecDepth 100000

theorem lit_pub : pubM 5 = pwI 64 5 ∧ pubE 5 = 0 := by decide
theorem all_evBank {es : List (Int × Int)} {y0 y1 y2 y3 y4 y5 y6 y7 : Int} (h : [y0, y1, y2, y3, y4, y5, y6, y7] = repB es) (h0 : evE es = 0) : [y0, y1, y2, y3, y4, y5, y6, y7] = evBank es := by
  rw [h]; unfold repB; rw [if_pos h0]

set_option maxHeartbeats 2000000 in
theorem judgeMeans_walk (w : World) (x k n m : Int) (A : Option Addr) (es : List (Int × Int)) (ec : Nat) (A2 : Option Addr) (rs : List (Int × List Int)) (rc : Nat) (qn qm qd qp qa : Int) (o : Int) (ix : I64 x) (ik : I64 k) (inn : I64 n) (im : I64 m)
    (hA : EvsAt w A es) (hz : es.length * 16 ≤ 140737488351232) (hc : es.length ≤ ec) (hR : RulesAt w A2 rs) (hzr : rs.length * 32 ≤ 140737488351232) (hrc : rs.length ≤ rc) (hgl : ∀ r ∈ rs, r.2.length * 8 ≤ 140737488351232) (j1 : I64 qn) (j2 : I64 qm) (j3 : I64 qd) (j4 : I64 qp) (j5 : I64 qa) (io : I64 o) :
    Calls Try.prog 3 #[.int .i64 x, .int .i64 k, .int .i64 n, .int .i64 m, .slice A es.length ec, .slice A2 rs.length rc, .agg #[.int .i64 qn, .int .i64 qm, .int .i64 qd, .int .i64 qp, .int .i64 qa], .int .i64 o] w fun e w' => e = .returned (.bool true) ∧ Below w.heap.size w w' := by
  have en := fun k w => err_neq k w
  have ee := fun k w => err_eql k w
  have gn := fun o k w => err_guard_neq o k w
  have ge := fun o k w => err_guard_eql o k w
  have HA := Lib.hid hA
  have HR := Lib.hid hR
  have HL : Hid (∀ s ∈ rs, s.2.length ≤ 9223372036854775806) := Lib.hid (fun s hs => by have := hgl s hs; omega)
  have HN := Lib.hid (Box.new w 27 #[.int .i64 qn, .int .i64 qm, .int .i64 qd, .int .i64 qp, .int .i64 qa])
  obtain ⟨d1, p1, a1, hlm⟩ := lit_made
  have L1 := Lib.hid lit_make
  have L2 := Lib.hid hlm
  have L3 := Lib.hid (lit_sure hlm)
  have L4 := Lib.hid lit_pub
  clear hA hR hgl hlm
  go_enter Try.func3, Try.ntmps3
  go_wp2_with fail
  refine (public_any x _).mono ?_
  rintro e w1 ⟨rfl, rfl⟩
  cases hx : okSecret x
  · rw [pubE_no hx]
    clear hx
    go_wp2_with fail
    go_ret
    exact ⟨rfl, (by repeat (first | (with_reducible exact grow_refl _) | (with_reducible assumption) | (with_reducible refine grow_alloc ?_ _) | (with_reducible refine grow_set ?_ (by first | exact Nat.le_refl _ | (simp; done) | (simp; omega) | omega) _) | (with_reducible refine grow_drewN ?_ _) | (with_reducible refine grow_drew ?_) | (with_reducible refine grow_step ?_ (by assumption)) | (with_reducible refine grow_base ?_ (by assumption))))⟩
  rw [pubE_yes hx, pubM_yes hx]
  obtain ⟨Q, hQ⟩ : ∃ Q, pwI 64 x = Q := ⟨_, rfl⟩
  rw [hQ]
  have HQ := Lib.hid hQ
  clear hx hQ
  go_wp2_with fail
  refine (replay_any A ec es _ (HA.out.below (by repeat (first | (with_reducible exact grow_refl _) | (with_reducible assumption) | (with_reducible refine grow_alloc ?_ _) | (with_reducible refine grow_set ?_ (by first | exact Nat.le_refl _ | (simp; done) | (simp; omega) | omega) _) | (with_reducible refine grow_drewN ?_ _) | (with_reducible refine grow_drew ?_) | (with_reducible refine grow_step ?_ (by assumption)) | (with_reducible refine grow_base ?_ (by assumption))))) (by omega)).mono ?_
  rintro e w2 ⟨y0, y1, y2, y3, y4, y5, y6, y7, hy, rfl, hb2⟩
  have HQ2 := Lib.hid (HN.out.below hb2)
  have lQ2 := HQ2.out.lt
  by_cases h0 : evE es = 0
  · have HEV := Lib.hid h0
    have HY := Lib.hid (all_evBank hy h0)
    rw [h0]
    clear hy h0
    go_wp2_with fail
    have BY := Box.new w2 33 #[.int .i64 y0, .int .i64 y1, .int .i64 y2, .int .i64 y3, .int .i64 y4, .int .i64 y5, .int .i64 y6, .int .i64 y7]
    refine (quoteMake_any 5 7 9 1 0 0 0 0 0 0 0 0 _).mono ?_
    rintro e w3 ⟨he, hb3⟩
    obtain rfl := he _ L2.out.symm
    clear he
    rw [L1.out]
    simp only
    have HY3 := Lib.hid (BY.below hb3)
    have HQ3 := Lib.hid ((HQ2.out.alloc_ _).below hb3)
    have hs3 := hb3.size
    clear BY
    go_wp2_with fail
    have BM := Box.new w3 27 #[.int .i64 9, .int .i64 1, .int .i64 d1, .int .i64 p1, .int .i64 a1]
    refine (public_any 5 _).mono ?_
    rintro e w4 ⟨rfl, rfl⟩
    rw [L4.out.1, L4.out.2]
    have cM := BM.cell
    have lM := BM.lt
    go_wp2_with fail
    have hR1 : RulesAt (((w3.alloc (.cells #[.int .i64 9, .int .i64 1, .int .i64 d1, .int .i64 p1, .int .i64 a1] 27)).alloc (.cells #[.int .i64 0] 3)).alloc (.cells #[.int .i64 0, .slice (some ⟨w3.heap.size + 1, 0, none⟩) 1 1] 41)) (some ⟨w3.heap.size + 1 + 1, 0, none⟩) [(0, [0])] := by
      have h0 := IntsAt.new_ (w3.alloc (.cells #[.int .i64 9, .int .i64 1, .int .i64 d1, .int .i64 p1, .int .i64 a1] 27)) 3 [0] (0, 0)
      have e0 : (w3.alloc (.cells #[.int .i64 9, .int .i64 1, .int .i64 d1, .int .i64 p1, .int .i64 a1] 27)).heap.size = w3.heap.size + 1 := by simp
      rw [e0] at h0
      have h := rule_new ((w3.alloc (.cells #[.int .i64 9, .int .i64 1, .int .i64 d1, .int .i64 p1, .int .i64 a1] 27)).alloc (.cells #[.int .i64 0] 3)) 0 [0] (some ⟨w3.heap.size + 1, 0, none⟩) 1 h0 (0, 0)
      have e : ((w3.alloc (.cells #[.int .i64 9, .int .i64 1, .int .i64 d1, .int .i64 p1, .int .i64 a1] 27)).alloc (.cells #[.int .i64 0] 3)).heap.size = w3.heap.size + 1 + 1 := by simp
      rw [e] at h
      exact h
    clear cM
    refine (judgeSure_any (pwI 64 5) 9 1 d1 p1 a1 9 none [] 0 _ [(0, [0])] 1 _ (EvsAt.nil_ _ _) (by simp) hR1 (by simp) (by simp) (by simp)).mono ?_
    rintro e w5 ⟨rfl, hb5⟩
    rw [L3.out]
    have HY5 := Lib.hid ((((HY3.out.alloc_ (.cells #[.int .i64 9, .int .i64 1, .int .i64 d1, .int .i64 p1, .int .i64 a1] 27)).alloc_ (.cells #[.int .i64 0] 3)).alloc_ (.cells #[.int .i64 0, .slice (some ⟨w3.heap.size + 1, 0, none⟩) 1 1] 41)).below hb5)
    have HQ5 := Lib.hid ((((HQ3.out.alloc_ (.cells #[.int .i64 9, .int .i64 1, .int .i64 d1, .int .i64 p1, .int .i64 a1] 27)).alloc_ (.cells #[.int .i64 0] 3)).alloc_ (.cells #[.int .i64 0, .slice (some ⟨w3.heap.size + 1, 0, none⟩) 1 1] 41)).below hb5)
    clear hR1 BM
    have cQ := HQ5.out.cell
    have lQ := HQ5.out.lt
    go_wp2_with fail
    clear cQ
    refine (judgeSure_any Q qn qm qd qp qa o A es ec A2 rs rc _ (HA.out.below (by repeat (first | (with_reducible exact grow_refl _) | (with_reducible assumption) | (with_reducible refine grow_alloc ?_ _) | (with_reducible refine grow_set ?_ (by first | exact Nat.le_refl _ | (simp; done) | (simp; omega) | omega) _) | (with_reducible refine grow_drewN ?_ _) | (with_reducible refine grow_drew ?_) | (with_reducible refine grow_step ?_ (by assumption)) | (with_reducible refine grow_base ?_ (by assumption))))) (by omega) (HR.out.below (by repeat (first | (with_reducible exact grow_refl _) | (with_reducible assumption) | (with_reducible refine grow_alloc ?_ _) | (with_reducible refine grow_set ?_ (by first | exact Nat.le_refl _ | (simp; done) | (simp; omega) | omega) _) | (with_reducible refine grow_drewN ?_ _) | (with_reducible refine grow_drew ?_) | (with_reducible refine grow_step ?_ (by assumption)) | (with_reducible refine grow_base ?_ (by assumption))))) hrc (by omega) HL.out).mono ?_
    rintro e w6 ⟨rfl, hb6⟩
    obtain ⟨E, hE⟩ : ∃ E, sureE Q qn qm qd qp qa o es rs = E := ⟨_, rfl⟩
    rw [hE]
    have HE := Lib.hid hE
    have HY6 := Lib.hid (HY5.out.below hb6)
    have HQ6 := Lib.hid (HQ5.out.below hb6)
    clear hE
    go_upto_if 82 with fail
    go_cut [24, 25, 26, 27] (fun _ _ _ _ wx => Below w.heap.size w wx ∧ Hid (Box wx w.heap.size 27 #[.int .i64 qn, .int .i64 qm, .int .i64 qd, .int .i64 qp, .int .i64 qa]) ∧ Hid (Box wx w2.heap.size 33 #[.int .i64 y0, .int .i64 y1, .int .i64 y2, .int .i64 y3, .int .i64 y4, .int .i64 y5, .int .i64 y6, .int .i64 y7]))
    case first =>
      by_cases h1 : E = 0
      · have t : (E == 0) = true := by simp [h1]
        obtain ⟨s1, s2, s3, s4, s5, s6⟩ := sure_so (HE.out.trans h1) HEV.out
        have HS3 := Lib.hid s3
        have HS4 := Lib.hid s4
        have HF1 : Hid (fitsE rs (evBank es) = 0 ∧ fitsB rs (evBank es) = true) := Lib.hid (by
          refine ⟨?_, ?_⟩
          · unfold fitsE; rw [if_pos s5]; unfold bankE; rw [evBank_ok]; rfl
          · unfold fitsB; rw [s5, s6, evBank_ok]; rfl)
        have HS1 := Lib.hid s1
        have tn : (qn != o) = false := by simp [s2]
        clear s1 s2 s3 s4 s5 s6 h1
        have cQ := HQ6.out.cell
        have lQ6 := HQ6.out.lt
        have cY := HY6.out.cell
        have lY6 := HY6.out.lt
        go_wp2_with fail
        clear cQ cY
        refine (quoteTells_any qn qm qd qp qa y0 y1 y2 y3 y4 y5 y6 y7 _).mono ?_
        rintro e w7 ⟨rfl, hb7⟩
        rw [HY.out, HS3.out, HS4.out]
        have HY7 := Lib.hid (HY6.out.below hb7)
        have HQ7 := Lib.hid (HQ6.out.below hb7)
        have cY := HY7.out.cell
        have lY7 := HY7.out.lt
        go_wp2_with fail
        clear cY
        refine (fits_any A2 rc rs y0 y1 y2 y3 y4 y5 y6 y7 _ (HR.out.below (by repeat (first | (with_reducible exact grow_refl _) | (with_reducible assumption) | (with_reducible refine grow_alloc ?_ _) | (with_reducible refine grow_set ?_ (by first | exact Nat.le_refl _ | (simp; done) | (simp; omega) | omega) _) | (with_reducible refine grow_drewN ?_ _) | (with_reducible refine grow_drew ?_) | (with_reducible refine grow_step ?_ (by assumption)) | (with_reducible refine grow_base ?_ (by assumption))))) hrc (by omega) HL.out).mono ?_
        rintro e w8 ⟨rfl, hb8⟩
        rw [HY.out, HF1.out.1, HF1.out.2]
        have HY8 := Lib.hid (HY7.out.below hb8)
        have HQ8 := Lib.hid (HQ7.out.below hb8)
        have cQ := HQ8.out.cell
        have lQ8 := HQ8.out.lt
        go_wp2_with fail
        clear cQ
        refine (quoteCheck_any Q qn qm qd qp qa o _).mono ?_
        rintro e w9 ⟨rfl, hb9⟩
        rw [HS1.out]
        go_wp2_with fail
        go_meet
        exact ⟨(by repeat (first | (with_reducible exact grow_refl _) | (with_reducible assumption) | (with_reducible refine grow_alloc ?_ _) | (with_reducible refine grow_set ?_ (by first | exact Nat.le_refl _ | (simp; done) | (simp; omega) | omega) _) | (with_reducible refine grow_drewN ?_ _) | (with_reducible refine grow_drew ?_) | (with_reducible refine grow_step ?_ (by assumption)) | (with_reducible refine grow_base ?_ (by assumption)))), Lib.hid (HQ8.out.below hb9), Lib.hid (HY8.out.below hb9)⟩
      · have t : (E == 0) = false := by simpa using h1
        clear h1
        go_wp2_with fail
        go_meet
        exact ⟨(by repeat (first | (with_reducible exact grow_refl _) | (with_reducible assumption) | (with_reducible refine grow_alloc ?_ _) | (with_reducible refine grow_set ?_ (by first | exact Nat.le_refl _ | (simp; done) | (simp; omega) | omega) _) | (with_reducible refine grow_drewN ?_ _) | (with_reducible refine grow_drew ?_) | (with_reducible refine grow_step ?_ (by assumption)) | (with_reducible refine grow_base ?_ (by assumption)))), HQ6, HY6⟩
    case rest =>
    obtain ⟨hb10, HQ10, HY10⟩ := hcut
    have cY := HY10.out.cell
    have lY10 := HY10.out.lt
    go_wp2_with fail
    clear cY
    obtain ⟨E2, hE2⟩ : ∃ E2, mkE x k n m [y0, y1, y2, y3, y4, y5, y6, y7] = E2 := ⟨_, rfl⟩
    have HE2 := Lib.hid hE2
    obtain ⟨⟨v1, v2, v3, v4, v5⟩, hv⟩ : ∃ v, mkV x k n m [y0, y1, y2, y3, y4, y5, y6, y7] = v := ⟨_, rfl⟩
    have HV := Lib.hid hv
    refine (quoteMake_any x k n m y0 y1 y2 y3 y4 y5 y6 y7 _).mono ?_
    rintro e w11 ⟨he, hb11⟩
    obtain rfl := he _ HV.out.symm
    clear he
    rw [hE2]
    simp only
    clear hE2 hv
    by_cases h2 : E2 = 0
    · have t : (E2 != 0) = false := by simp [h2]
      have hmk := make_ok (HE2.out.trans h2)
      have HVV : Hid (v1 = n ∧ v2 = m ∧ v3 = isM (evBank es) m ∧ v4 = sgP x k (rowM [n, m, isM (evBank es) m]) ∧ v5 = sgA x k (rowM [n, m, isM (evBank es) m])) := Lib.hid (by
        have h3 := hmk.2.2.2.2.2.1
        rw [HV.out, HY.out] at h3
        simpa only [Prod.mk.injEq] using h3)
      obtain ⟨rfl, rfl, h13, h14, h15⟩ := HVV.out
      have HMK := Lib.hid hmk.2.2.1
      have HS : Hid (sureE Q v1 v2 v3 v4 v5 v1 es rs = if rulesE rs = 0 then (if askedB v2 rs = true then (if fitM rs (evBank es) = true then 0 else 6) else 5) else rulesE rs) := Lib.hid (by
        have h3 := sure_of (P := v4) (A := v5) (rs := rs) (HY.out ▸ (HE2.out.trans h2)) HEV.out h14.symm h15.symm
        rw [HQ.out, ← h13] at h3
        exact h3)
      clear h13 h14 h15 h2 hmk HVV
      have HY11 := Lib.hid (HY10.out.below hb11)
      have lY11 := HY11.out.lt
      go_wp2_with fail
      have BM := Box.new w11 27 #[.int .i64 v1, .int .i64 v2, .int .i64 v3, .int .i64 v4, .int .i64 v5]
      have cM := BM.cell
      have lM2 := BM.lt
      go_wp2_with fail
      clear cM
      refine (judgeSure_any Q v1 v2 v3 v4 v5 v1 A es ec A2 rs rc _ (HA.out.below (by repeat (first | (with_reducible exact grow_refl _) | (with_reducible assumption) | (with_reducible refine grow_alloc ?_ _) | (with_reducible refine grow_set ?_ (by first | exact Nat.le_refl _ | (simp; done) | (simp; omega) | omega) _) | (with_reducible refine grow_drewN ?_ _) | (with_reducible refine grow_drew ?_) | (with_reducible refine grow_step ?_ (by assumption)) | (with_reducible refine grow_base ?_ (by assumption))))) (by omega) (HR.out.below (by repeat (first | (with_reducible exact grow_refl _) | (with_reducible assumption) | (with_reducible refine grow_alloc ?_ _) | (with_reducible refine grow_set ?_ (by first | exact Nat.le_refl _ | (simp; done) | (simp; omega) | omega) _) | (with_reducible refine grow_drewN ?_ _) | (with_reducible refine grow_drew ?_) | (with_reducible refine grow_step ?_ (by assumption)) | (with_reducible refine grow_base ?_ (by assumption))))) hrc (by omega) HL.out).mono ?_
      rintro e w12 ⟨rfl, hb12⟩
      obtain ⟨S, hS⟩ : ∃ S, sureE Q v1 v2 v3 v4 v5 v1 es rs = S := ⟨_, rfl⟩
      rw [hS] at HS ⊢
      clear hS BM
      have HY12 := Lib.hid ((HY11.out.alloc_ (.cells #[.int .i64 v1, .int .i64 v2, .int .i64 v3, .int .i64 v4, .int .i64 v5] 27)).below hb12)
      go_wp2_with fail
      refine (ruleMask_any A2 rc rs _ (HR.out.below (by repeat (first | (with_reducible exact grow_refl _) | (with_reducible assumption) | (with_reducible refine grow_alloc ?_ _) | (with_reducible refine grow_set ?_ (by first | exact Nat.le_refl _ | (simp; done) | (simp; omega) | omega) _) | (with_reducible refine grow_drewN ?_ _) | (with_reducible refine grow_drew ?_) | (with_reducible refine grow_step ?_ (by assumption)) | (with_reducible refine grow_base ?_ (by assumption))))) hrc (by omega) HL.out).mono ?_
      rintro e w13 ⟨rfl, hb13⟩
      have HY13 := Lib.hid (HY12.out.below hb13)
      have cY := HY13.out.cell
      have lY13 := HY13.out.lt
      obtain ⟨K, hK⟩ : ∃ K, maskM rs = K := ⟨_, rfl⟩
      have HK := Lib.hid hK
      obtain ⟨R, hRR⟩ : ∃ R, rulesE rs = R := ⟨_, rfl⟩
      have HRR := Lib.hid hRR
      rw [hRR] at HS
      rw [hK, hRR]
      clear hK hRR
      go_wp2_with fail
      clear cY
      refine (fits_any A2 rc rs y0 y1 y2 y3 y4 y5 y6 y7 _ (HR.out.below (by repeat (first | (with_reducible exact grow_refl _) | (with_reducible assumption) | (with_reducible refine grow_alloc ?_ _) | (with_reducible refine grow_set ?_ (by first | exact Nat.le_refl _ | (simp; done) | (simp; omega) | omega) _) | (with_reducible refine grow_drewN ?_ _) | (with_reducible refine grow_drew ?_) | (with_reducible refine grow_step ?_ (by assumption)) | (with_reducible refine grow_base ?_ (by assumption))))) hrc (by omega) HL.out).mono ?_
      rintro e w14 ⟨rfl, hb14⟩
      rw [HY.out]
      obtain ⟨Ft, hFt⟩ : ∃ Ft, fitsB rs (evBank es) = Ft := ⟨_, rfl⟩
      obtain ⟨E3, hE3⟩ : ∃ E3, fitsE rs (evBank es) = E3 := ⟨_, rfl⟩
      have HFt := Lib.hid hFt
      have HE3 := Lib.hid hE3
      rw [hFt, hE3]
      clear hFt hE3
      by_cases h3 : R = 0
      · have t3 : (R != 0) = false := by simp [h3]
        have hr0 := HRR.out.trans h3
        have hz3 : E3 = 0 := by rw [← HE3.out]; unfold fitsE; rw [if_pos hr0]; unfold bankE; rw [evBank_ok]; rfl
        have t4 : (E3 != 0) = false := by simp [hz3]
        have HF : Hid (fitM rs (evBank es) = Ft) := Lib.hid (by rw [← HFt.out]; unfold fitsB; rw [hr0, evBank_ok]; simp)
        have hok := (rulesE_ok hr0).2
        have hKN : K = (askN rs : Int) := by rw [← HK.out]; unfold maskM; rw [if_pos hr0]
        have hl := askN_lt (rs := rs) (fun r hr => (hok r hr).1)
        have k1 : 0 ≤ K := by omega
        have k2 : K ≤ 255 := by omega
        obtain ⟨m1, m2⟩ := okMask_yes HMK.out
        have HKN := Lib.hid hKN
        have HALL := Lib.hid (askedK_all v2 (rs := rs) (fun r hr => (hok r hr).1))
        have HS2 : Hid (S = if askedB v2 rs = true then (if Ft = true then 0 else 6) else 5) := Lib.hid (by rw [HS.out, if_pos h3, HF.out])
        clear h3 hr0 hz3 hok hKN hl
        go_wp2_with fail
        go_loopw [34, 35, 36, 37] (fun s i _ _ wr => ∃ (j : Nat) (V : Bool), j ≤ 8 ∧ i = .int .i64 j ∧ s = .bool V ∧ Hid (V = askedK v2 rs j) ∧ Below w.heap.size w wr) (fun _ i _ _ _ => 8 - (intOf i).toNat)
        case atStart => exact ⟨0, true, by omega, rfl, rfl, Lib.hid rfl, (by repeat (first | (with_reducible exact grow_refl _) | (with_reducible assumption) | (with_reducible refine grow_alloc ?_ _) | (with_reducible refine grow_set ?_ (by first | exact Nat.le_refl _ | (simp; done) | (simp; omega) | omega) _) | (with_reducible refine grow_drewN ?_ _) | (with_reducible refine grow_drew ?_) | (with_reducible refine grow_step ?_ (by assumption)) | (with_reducible refine grow_base ?_ (by assumption))))⟩
        case round =>
          obtain ⟨j, V, hj, rfl, rfl, HV2, hbr⟩ := hrel
          by_cases hlt : j < 8
          · have hs := askedK_succ v2 rs j
            rw [← HKN.out, ← HV2.out] at hs
            obtain ⟨b1, hb1'⟩ : ∃ b1, bitM K j = b1 := ⟨_, rfl⟩
            obtain ⟨b2, hb2'⟩ : ∃ b2, bitM v2 j = b2 := ⟨_, rfl⟩
            rw [hb1', hb2'] at hs
            have HB1 := Lib.hid hb1'
            have HB2 := Lib.hid hb2'
            have H3 : Hid ((V && (!b1 || b2)) = askedK v2 rs (j + 1)) := Lib.hid hs.symm
            have gj : (j : Int) < 8 := by omega
            clear hs hb1' hb2' HV2
            cases V <;> cases b1 <;> cases b2 <;>
              (go_wp2_with (go_at_call 12; refine (rAsks_any _ _ _ (by first | exact k1 | exact m1) (by first | exact k2 | exact m2) (by omega) (by omega)).mono ?_; rintro e w' ⟨rfl, rfl⟩; rw [Int.toNat_natCast]; first | rw [HB1.out] | rw [HB2.out])
               go_roundw
               case rel => exact ⟨j + 1, _, by omega, by go_num, rfl, H3, hbr⟩
               case measure => simp [intOf]; omega)
          · have HVF : Hid (V = askedB v2 rs) := Lib.hid (by rw [HV2.out, ← HALL.out, show j = 8 from by omega])
            have gj : ¬ ((j : Int) < 8) := by omega
            rw [← HVF.out] at HS2
            clear HV2
            cases V
            · have hS5 : S = 5 := HS2.out
              have t5 : (S == 0) = false := by rw [hS5]; rfl
              clear hS5
              cases Ft
              · go_wp2_with fail
                go_ret
                exact ⟨rfl, hbr⟩
              · go_wp2_with fail
                go_ret
                exact ⟨rfl, hbr⟩
            · cases Ft
              · have hS5 : S = 6 := HS2.out
                have t5 : (S == 0) = false := by rw [hS5]; rfl
                clear hS5
                go_wp2_with fail
                go_ret
                exact ⟨rfl, hbr⟩
              · have hS5 : S = 0 := HS2.out
                have t5 : (S == 0) = true := by rw [hS5]; rfl
                clear hS5
                go_wp2_with fail
                go_ret
                exact ⟨rfl, hbr⟩
      · have t3 : (R != 0) = true := by simpa using h3
        have hSR : S = R := by rw [HS.out, if_neg h3]
        have tS : (S != 0) = true := by rw [hSR]; exact t3
        clear h3 hSR
        go_wp2_with fail
        go_ret
        exact ⟨rfl, (by repeat (first | (with_reducible exact grow_refl _) | (with_reducible assumption) | (with_reducible refine grow_alloc ?_ _) | (with_reducible refine grow_set ?_ (by first | exact Nat.le_refl _ | (simp; done) | (simp; omega) | omega) _) | (with_reducible refine grow_drewN ?_ _) | (with_reducible refine grow_drew ?_) | (with_reducible refine grow_step ?_ (by assumption)) | (with_reducible refine grow_base ?_ (by assumption))))⟩
    · have t : (E2 != 0) = true := by simpa using h2
      clear h2
      go_wp2_with fail
      go_ret
      exact ⟨rfl, (by repeat (first | (with_reducible exact grow_refl _) | (with_reducible assumption) | (with_reducible refine grow_alloc ?_ _) | (with_reducible refine grow_set ?_ (by first | exact Nat.le_refl _ | (simp; done) | (simp; omega) | omega) _) | (with_reducible refine grow_drewN ?_ _) | (with_reducible refine grow_drew ?_) | (with_reducible refine grow_step ?_ (by assumption)) | (with_reducible refine grow_base ?_ (by assumption))))⟩
  · have t : (evE es != 0) = true := by simp [h0]
    clear h0
    go_wp2_with fail
    go_ret
    exact ⟨rfl, (by repeat (first | (with_reducible exact grow_refl _) | (with_reducible assumption) | (with_reducible refine grow_alloc ?_ _) | (with_reducible refine grow_set ?_ (by first | exact Nat.le_refl _ | (simp; done) | (simp; omega) | omega) _) | (with_reducible refine grow_drewN ?_ _) | (with_reducible refine grow_drew ?_) | (with_reducible refine grow_step ?_ (by assumption)) | (with_reducible refine grow_base ?_ (by assumption))))⟩

set_option maxRecDepth 100000 in
theorem judgeMeans_walks (H : Type) (enc : TypeId × Value → H) : Walks enc Try.prog 3 Try.f3 := by
  intro W base args ds p hval hA hlt hsz hsh
  have hsz0 := hsz
  rw [Try.params3] at hA hval
  obtain ⟨v0, vs0, d0, ds0, p0, q0, hargs, rfl, rfl, h0, r0⟩ := trodAll_cons hA
  obtain ⟨v1, vs1, d1, ds1, p1, q1, rfl, rfl, rfl, h1, r1⟩ := trodAll_cons r0
  obtain ⟨v2, vs2, d2, ds2, p2, q2, rfl, rfl, rfl, h2, r2⟩ := trodAll_cons r1
  obtain ⟨v3, vs3, d3, ds3, p3, q3, rfl, rfl, rfl, h3, r3⟩ := trodAll_cons r2
  obtain ⟨v4, vs4, d4, ds4, p4, q4, rfl, rfl, rfl, h4, r4⟩ := trodAll_cons r3
  obtain ⟨v5, vs5, d5, ds5, p5, q5, rfl, rfl, rfl, h5, r5⟩ := trodAll_cons r4
  obtain ⟨v6, vs6, d6, ds6, p6, q6, rfl, rfl, rfl, h6, r6⟩ := trodAll_cons r5
  obtain ⟨v7, vs7, d7, ds7, p7, q7, rfl, rfl, rfl, h7, r7⟩ := trodAll_cons r6
  obtain ⟨rfl, rfl, rfl⟩ := trodAll_nil r7
  obtain rfl : args = #[v0, v1, v2, v3, v4, v5, v6, v7] := by cases args; simp_all
  obtain ⟨a0, rfl, w0⟩ := op_int (hval 0 3 v0 rfl rfl) h0
  obtain ⟨a1, rfl, w1⟩ := op_int (hval 1 3 v1 rfl rfl) h1
  obtain ⟨a2, rfl, w2⟩ := op_int (hval 2 3 v2 rfl rfl) h2
  obtain ⟨a3, rfl, w3⟩ := op_int (hval 3 3 v3 rfl rfl) h3
  obtain ⟨A4, a4, c4, rfl, w4, z4, y4⟩ := op_evs (hval 4 22 v4 rfl rfl) h4 (fun x hx => hlt x (by simp [hx])) (w_each hsz 4 22 _ (by rw [Try.params3]; rfl) rfl)
  obtain ⟨A5, a5, c5, rfl, w5, z5, y5, g5⟩ := op_rules (hval 5 23 v5 rfl rfl) h5 (fun x hx => hlt x (by simp [hx])) (w_each hsz 5 23 _ (by rw [Try.params3]; rfl) rfl)
  obtain ⟨s60, s61, s62, s63, s64, rfl, q60, q61, q62, q63, q64⟩ := op_quote (hval 6 27 v6 rfl rfl)
  obtain ⟨a7, rfl, w7⟩ := op_int (hval 7 3 v7 rfl rfl) h7
  exact judgeMeans_walk W a0 a1 a2 a3 A4 a4 c4 A5 a5 c5 s60 s61 s62 s63 s64 a7 w0 w1 w2 w3 w4 z4 y4 w5 z5 y5 g5 q60 q61 q62 q63 q64 w7

set_option maxRecDepth 100000 in
theorem judgeMeans_lifted (os : Os) (started : os.Started) (H : Type) (enc : TypeId × Value → H) :
    ReturnsInHanded {} Try.checked os 3 .any (Rows.judgeMeansSpec.pre6 enc Try.prog Try.f3 Rows.judgeMeansRow.domain false) (Rows.judgeMeansSpec.post enc Try.prog Try.f3 false true false false) :=
  returns_of_walk (C := Try.checked) (s := Rows.judgeMeansSpec) own started (by kernel_rfl) Try.func3
    (ChangeSpec.witness6 (enc := enc) (C := Try.checked) false ⟨#[], #[.int .i64 0, .int .i64 0, .int .i64 0, .int .i64 0, .slice none 0 0, .slice none 0 0, .agg #[.int .i64 0, .int .i64 0, .int .i64 0, .int .i64 0, .int .i64 0], .int .i64 0], []⟩ 8 (by kernel_rfl) (by kernel_rfl) (by kernel_rfl) (by kernel_rfl))
    laidOut (by kernel_rfl) (by kernel_rfl) Try.underlying4 rfl (fun ds h => by match ds, h with | [_, _, _, _, _, _, _, _], _ => rfl) (judgeMeans_walks H enc)

theorem judgeMeans_holds : Rows.JudgeMeansSaid :=
  OpenClaim.holds_of_wide 3 Try.f3 rfl rfl rfl rfl rfl rfl rfl ⟨rfl, rfl, rfl, rfl, rfl⟩ rfl rfl rfl rfl rfl (by kernel_rfl) Try.func3 (by kernel_rfl)
    (of_decide_eq_true (by kernel_rfl)) (by unfold Func.isWrapper; rw [if_neg (of_decide_eq_false (by kernel_rfl))]; exact ⟨rfl, rfl⟩)
    (fun os started H enc _ => judgeMeans_lifted os started H enc)

end Go.Proofs.Ytdjeajhkpkphbaa
