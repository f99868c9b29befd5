/- judge.Sure. -/
import Derived.Test.YtkipjloapdolbaaGreatDoorRows
import Derived.Test.YtkipjloapdolbaaGreatDoorNum
import Derived.Test.YtkipjloapdolbaaGreatDoorBase
import Derived.Test.YtkipjloapdolbaaGreatDoorEvent
import Derived.Test.YtkipjloapdolbaaGreatDoorRule
import Derived.Test.YtkipjloapdolbaaGreatDoorQuote
import Derived.Test.YtkipjloapdolbaaGreatDoorEvent2
import Derived.Test.YtkipjloapdolbaaGreatDoorJdPlain
import Derived.WalkKit
import Derived.Lib.Hide
import Derived.Deep.RegionHeld3
import Derived.StillTailTactics
namespace Go.Proofs.YtkipjloapdolbaaGreatDoor
open Go.RowKit
set_option maxRecDepth 100000

def KeepJ (w : World) (g : Nat) (w' : World) (Q Y : Array Value) : Prop := Box w' w.heap.size 50 Q ∧ Box w' g 54 Y ∧ Below w.heap.size w w'
theorem KeepJ.below {w wx wy : World} {g : Nat} {Q Y : Array Value} (h : KeepJ w g wx Q Y) (hb : Below wx.heap.size wx wy) : KeepJ w g wy Q Y := ⟨h.1.below hb, h.2.1.below hb, grow_step h.2.2 hb⟩
theorem KeepJ.drew_ {w wx : World} {g : Nat} {Q Y : Array Value} (h : KeepJ w g wx Q Y) : KeepJ w g wx.drew Q Y := ⟨h.1.drew_, h.2.1.drew_, grow_drew h.2.2⟩

set_option maxHeartbeats 4000000 in
theorem judgeSure_any (q n m d p a c : Int) (A : Option Addr) (es : List (Int × Int)) (ec : Nat) (A2 : Option Addr) (rs : List (Int × List Int)) (rc : Nat) (w : World) (hE : EvsAt w A es) (hbe : es.length ≤ 9223372036854775806)
    (hR : RulesAt w A2 rs) (hrc : rs.length ≤ rc) (hbr : rs.length ≤ 9223372036854775806) (hgl : ∀ r ∈ rs, r.2.length ≤ 9223372036854775806) :
    Calls Tryz.prog 20 #[.int .i64 q, .agg #[.int .i64 n, .int .i64 m, .int .i64 d, .int .i64 p, .int .i64 a], .int .i64 c, .slice A es.length ec, .slice A2 rs.length rc] w fun e w' => e = .returned (errV (sureE q n m d p a c es rs)) ∧ Below w.heap.size w w' := by
  have en := fun k w => err_neq k w
  have gn := fun o k w => err_guard_neq o k w
  have HA := Lib.hid hE
  have HA2 := Lib.hid hR
  have HL := Lib.hid hgl
  have HN := Lib.hid (Box.new w 50 #[.int .i64 n, .int .i64 m, .int .i64 d, .int .i64 p, .int .i64 a])
  obtain ⟨E, hEE⟩ : ∃ E, qcE q n m d p a c = E := ⟨_, rfl⟩
  have HE := Lib.hid hEE
  have HS : Hid (sureE q n m d p a c es rs = if E = 0 then (if evE es = 0 then (if rulesE rs = 0 then sureT m d es rs else rulesE rs) else evE es) else E) := Lib.hid (by unfold sureE; rw [hEE])
  clear hE hR hgl hEE
  go_enter Tryz.func20, Tryz.ntmps20
  go_wp2_with fail
  refine (quoteCheck_any q n m d p a c _).mono ?_
  rintro e w1 ⟨rfl, hb1⟩
  rw [HE.out]
  have B1 := Lib.hid (HN.out.below hb1)
  by_cases h0 : E = 0
  · have t : (E != 0) = false := by simp [h0]
    have HM := Lib.hid (qcE_mask (HE.out.trans h0))
    have HS2 : Hid (sureE q n m d p a c es rs = if evE es = 0 then (if rulesE rs = 0 then sureT m d es rs else rulesE rs) else evE es) := Lib.hid (by rw [HS.out, if_pos h0])
    clear h0 HS
    go_wp2_with fail
    refine (evCheck_any A ec es _ (HA.out.below (by repeat (first | (with_reducible exact grow_refl _) | (with_reducible assumption) | (with_reducible refine grow_alloc ?_ _) | (with_reducible refine grow_set ?_ (by first | exact Nat.le_refl _ | (simp; done) | (simp; omega) | omega) _) | (with_reducible refine grow_drewN ?_ _) | (with_reducible refine grow_drew ?_) | (with_reducible refine grow_step ?_ (by assumption)) | (with_reducible refine grow_base ?_ (by assumption))))) hbe).mono ?_
    rintro e w2 ⟨rfl, hb2⟩
    have B2 := Lib.hid (B1.out.below hb2)
    obtain ⟨E2, hE2⟩ : ∃ E2, evE es = E2 := ⟨_, rfl⟩
    rw [hE2]
    have HE2 := Lib.hid hE2
    clear hE2
    by_cases h2 : E2 = 0
    · have t2 : (E2 != 0) = false := by simp [h2]
      have HEV := Lib.hid (evE_ok (HE2.out.trans h2))
      have HS3 : Hid (sureE q n m d p a c es rs = if rulesE rs = 0 then sureT m d es rs else rulesE rs) := Lib.hid (by rw [HS2.out, if_pos (HE2.out.trans h2)])
      clear h2 HS2
      go_wp2_with fail
      refine (ruleCheck_any A2 rc rs _ (HA2.out.below (by repeat (first | (with_reducible exact grow_refl _) | (with_reducible assumption) | (with_reducible refine grow_alloc ?_ _) | (with_reducible refine grow_set ?_ (by first | exact Nat.le_refl _ | (simp; done) | (simp; omega) | omega) _) | (with_reducible refine grow_drewN ?_ _) | (with_reducible refine grow_drew ?_) | (with_reducible refine grow_step ?_ (by assumption)) | (with_reducible refine grow_base ?_ (by assumption))))) hrc hbr HL.out).mono ?_
      rintro e w3 ⟨rfl, hb3⟩
      have B3 := Lib.hid (B2.out.below hb3)
      obtain ⟨E3, hE3⟩ : ∃ E3, rulesE rs = E3 := ⟨_, rfl⟩
      rw [hE3]
      have HE3 := Lib.hid hE3
      clear hE3
      by_cases h3 : E3 = 0
      · have t3 : (E3 != 0) = false := by simp [h3]
        have HRU := Lib.hid (rulesE_ok (HE3.out.trans h3))
        have HS4 : Hid (sureE q n m d p a c es rs = sureT m d es rs) := Lib.hid (by rw [HS3.out, if_pos (HE3.out.trans h3)])
        clear h3 HS3
        go_wp2_with fail
        refine (again_any A ec es _ (HA.out.below (by repeat (first | (with_reducible exact grow_refl _) | (with_reducible assumption) | (with_reducible refine grow_alloc ?_ _) | (with_reducible refine grow_set ?_ (by first | exact Nat.le_refl _ | (simp; done) | (simp; omega) | omega) _) | (with_reducible refine grow_drewN ?_ _) | (with_reducible refine grow_drew ?_) | (with_reducible refine grow_step ?_ (by assumption)) | (with_reducible refine grow_base ?_ (by assumption))))) hbe HEV.out.2).mono ?_
        rintro e w4 ⟨y0, y1, y2, y3, y4, y5, y6, y7, hy, rfl, hb4⟩
        have HY := Lib.hid hy
        have HYok : Hid (([y0, y1, y2, y3, y4, y5, y6, y7]).all okM = true) := Lib.hid (by rw [hy]; exact evBank_ok es)
        clear hy
        have B4 := Lib.hid (B3.out.below hb4)
        have l4 := B4.out.lt
        obtain ⟨m1, m2⟩ := okMask_yes HM.out.2.2.2.1
        obtain ⟨D, hD⟩ : ∃ D, isM [y0, y1, y2, y3, y4, y5, y6, y7] m = D := ⟨_, rfl⟩
        have HD := Lib.hid hD
        clear hD
        go_wp2_with fail
        have BY := Box.new w4 54 #[.int .i64 y0, .int .i64 y1, .int .i64 y2, .int .i64 y3, .int .i64 y4, .int .i64 y5, .int .i64 y6, .int .i64 y7]
        have q1 := B4.out.alloc_ (.cells #[.int .i64 y0, .int .i64 y1, .int .i64 y2, .int .i64 y3, .int .i64 y4, .int .i64 y5, .int .i64 y6, .int .i64 y7] 54)
        have hB4 : Below w.heap.size w (w4.alloc (.cells #[.int .i64 y0, .int .i64 y1, .int .i64 y2, .int .i64 y3, .int .i64 y4, .int .i64 y5, .int .i64 y6, .int .i64 y7] 54)) := (by repeat (first | (with_reducible exact grow_refl _) | (with_reducible assumption) | (with_reducible refine grow_alloc ?_ _) | (with_reducible refine grow_set ?_ (by first | exact Nat.le_refl _ | (simp; done) | (simp; omega) | omega) _) | (with_reducible refine grow_drewN ?_ _) | (with_reducible refine grow_drew ?_) | (with_reducible refine grow_step ?_ (by assumption)) | (with_reducible refine grow_base ?_ (by assumption))))
        go_region_held3 (fun w' => (∀ i, w'.cell? ⟨w.heap.size, i, none⟩ = (#[.int .i64 n, .int .i64 m, .int .i64 d, .int .i64 p, .int .i64 a] : Array Value)[i]?) ∧ (∀ i, w'.cell? ⟨w4.heap.size, i, none⟩ = (#[.int .i64 y0, .int .i64 y1, .int .i64 y2, .int .i64 y3, .int .i64 y4, .int .i64 y5, .int .i64 y6, .int .i64 y7] : Array Value)[i]?) ∧ Box w' w.heap.size 50 #[.int .i64 n, .int .i64 m, .int .i64 d, .int .i64 p, .int .i64 a] ∧ Box w' w4.heap.size 54 #[.int .i64 y0, .int .i64 y1, .int .i64 y2, .int .i64 y3, .int .i64 y4, .int .i64 y5, .int .i64 y6, .int .i64 y7] ∧ Below w.heap.size w w')
          (first
            | exact ⟨G1.cell, G2.cell, G1, G2, G3⟩
            | exact ⟨q1.cell, BY.cell, q1.drew_, BY.drew_, grow_drew hB4⟩
            | (go_keep; done))
          (first
            | (go_at_call 44; go_split_ands; have p1 : Box _ w.heap.size 50 #[.int .i64 n, .int .i64 m, .int .i64 d, .int .i64 p, .int .i64 a] := (by assumption); have p2 : Box _ w4.heap.size 54 #[.int .i64 y0, .int .i64 y1, .int .i64 y2, .int .i64 y3, .int .i64 y4, .int .i64 y5, .int .i64 y6, .int .i64 y7] := (by assumption); have p3 : Below w.heap.size w _ := (by assumption); refine (bankIs_any y0 y1 y2 y3 y4 y5 y6 y7 m _ m1 m2 HYok.out).mono ?_; rintro e w5 ⟨rfl, hb5⟩; rw [HD.out]; have G1 := p1.below hb5; have G2 := p2.below hb5; have G3 := grow_step p3 hb5; clear p1 p2 p3))
        by_cases hDd : D = d
        · have t4 : (D != d) = false := by simp [hDd]
          have HS5 : Hid (sureE q n m d p a c es rs = if askedB m rs = true then (if fitM rs (evBank es) = true then 0 else 6) else 5) := Lib.hid (by
            rw [HS4.out]; unfold sureT; rw [if_pos (by rw [← HY.out, HD.out]; exact hDd)])
          clear hDd HS4
          have ha := andNot_asked m rs m1 m2 (fun r hr => (HRU.out.2 r hr).1)
          obtain ⟨Ab, hAb⟩ : ∃ Ab, askedB m rs = Ab := ⟨_, rfl⟩
          rw [hAb] at ha
          have HAb := Lib.hid hAb
          have hRd : RulesAt w5 A2 rs := HA2.out.below G3
          clear hAb
          go_wp2_with fail
          have RK : Hid (KeepJ w w4.heap.size w5 #[.int .i64 n, .int .i64 m, .int .i64 d, .int .i64 p, .int .i64 a] #[.int .i64 y0, .int .i64 y1, .int .i64 y2, .int .i64 y3, .int .i64 y4, .int .i64 y5, .int .i64 y6, .int .i64 y7]) := Lib.hid ⟨G1, G2, G3⟩
          have HRok : Hid (∀ r ∈ rs, okReg r.1 = true ∧ r.2.length ≤ 100000) := Lib.hid (fun r hr => ⟨(HRU.out.2 r hr).1, by have := (HRU.out.2 r hr).2.1; omega⟩)
          have HHa := Lib.hid ha
          clear hRd ha
          go_region_held3 (fun w' => (∀ i, w'.cell? ⟨w.heap.size, i, none⟩ = (#[.int .i64 n, .int .i64 m, .int .i64 d, .int .i64 p, .int .i64 a] : Array Value)[i]?) ∧ KeepJ w w4.heap.size w' #[.int .i64 n, .int .i64 m, .int .i64 d, .int .i64 p, .int .i64 a] #[.int .i64 y0, .int .i64 y1, .int .i64 y2, .int .i64 y3, .int .i64 y4, .int .i64 y5, .int .i64 y6, .int .i64 y7])
            (first
              | exact ⟨K1.1.cell, K1⟩
              | exact ⟨RK.out.1.cell, RK.out.drew_⟩
              | (go_keep; done))
            (first
              | (go_at_call 45; go_split_ands; have p1 : KeepJ w w4.heap.size _ #[.int .i64 n, .int .i64 m, .int .i64 d, .int .i64 p, .int .i64 a] #[.int .i64 y0, .int .i64 y1, .int .i64 y2, .int .i64 y3, .int .i64 y4, .int .i64 y5, .int .i64 y6, .int .i64 y7] := (by assumption); refine (asks_any A2 rc rs _ (HA2.out.below p1.2.2) (fun r hr => (HRok.out r hr).1) hbr).mono ?_; rintro e w6 ⟨rfl, hb6⟩; have K1 := p1.below hb6; clear p1))
          have K2 := K1.2.1
          have K3 := K1.2.2
          rw [HHa.out]
          cases Ab
          · have HS6 : Hid (sureE q n m d p a c es rs = 5) := Lib.hid (by rw [HS5.out, HAb.out]; rfl)
            go_wp2_with fail
            go_ret
            exact ⟨by rw [HS6.out]; rfl, K3⟩
          · have HS6 : Hid (sureE q n m d p a c es rs = if fitM rs [y0, y1, y2, y3, y4, y5, y6, y7] = true then 0 else 6) := Lib.hid (by rw [HS5.out, HAb.out, if_pos rfl, HY.out])
            have cK := K2.cell
            have lK := K2.lt
            go_wp2_with fail
            clear cK
            refine (fit_any A2 rc rs y0 y1 y2 y3 y4 y5 y6 y7 _ (HA2.out.below K3) HRok.out hbr).mono ?_
            rintro e w7 ⟨rfl, hb7⟩
            obtain ⟨Ft, hFt⟩ : ∃ Ft, fitM rs [y0, y1, y2, y3, y4, y5, y6, y7] = Ft := ⟨_, rfl⟩
            rw [hFt] at HS6 ⊢
            clear hFt
            cases Ft
            · go_wp2_with fail
              go_ret
              exact ⟨by rw [HS6.out]; rfl, grow_step K3 hb7⟩
            · go_wp2_with fail
              go_ret
              exact ⟨by rw [HS6.out]; rfl, grow_step K3 hb7⟩
        · have t4 : (D != d) = true := by simp [hDd]
          have HS5 : Hid (sureE q n m d p a c es rs = 3) := Lib.hid (by
            rw [HS4.out]; unfold sureT; rw [if_neg (by rw [← HY.out, HD.out]; exact hDd)])
          clear hDd HS4
          go_wp2_with fail
          go_ret
          exact ⟨by rw [HS5.out]; rfl, G3⟩
      · have t3 : (E3 != 0) = true := by simpa using h3
        have HF : Hid (sureE q n m d p a c es rs = E3) := Lib.hid (by rw [HS3.out, if_neg (by rw [HE3.out]; exact h3), HE3.out])
        clear h3 HS3
        go_wp2_with fail
        go_ret
        exact ⟨by rw [HF.out]; rfl, (by repeat (first | (with_reducible exact grow_refl _) | (with_reducible assumption) | (with_reducible refine grow_alloc ?_ _) | (with_reducible refine grow_set ?_ (by first | exact Nat.le_refl _ | (simp; done) | (simp; omega) | omega) _) | (with_reducible refine grow_drewN ?_ _) | (with_reducible refine grow_drew ?_) | (with_reducible refine grow_step ?_ (by assumption)) | (with_reducible refine grow_base ?_ (by assumption))))⟩
    · have t2 : (E2 != 0) = true := by simpa using h2
      have HF : Hid (sureE q n m d p a c es rs = E2) := Lib.hid (by rw [HS2.out, if_neg (by rw [HE2.out]; exact h2), HE2.out])
      clear h2 HS2
      go_wp2_with fail
      go_ret
      exact ⟨by rw [HF.out]; rfl, (by repeat (first | (with_reducible exact grow_refl _) | (with_reducible assumption) | (with_reducible refine grow_alloc ?_ _) | (with_reducible refine grow_set ?_ (by first | exact Nat.le_refl _ | (simp; done) | (simp; omega) | omega) _) | (with_reducible refine grow_drewN ?_ _) | (with_reducible refine grow_drew ?_) | (with_reducible refine grow_step ?_ (by assumption)) | (with_reducible refine grow_base ?_ (by assumption))))⟩
  · have t : (E != 0) = true := by simpa using h0
    have HF : Hid (sureE q n m d p a c es rs = E) := Lib.hid (by rw [HS.out, if_neg h0])
    clear h0 HS
    go_wp2_with fail
    go_ret
    exact ⟨by rw [HF.out]; rfl, (by repeat (first | (with_reducible exact grow_refl _) | (with_reducible assumption) | (with_reducible refine grow_alloc ?_ _) | (with_reducible refine grow_set ?_ (by first | exact Nat.le_refl _ | (simp; done) | (simp; omega) | omega) _) | (with_reducible refine grow_drewN ?_ _) | (with_reducible refine grow_drew ?_) | (with_reducible refine grow_step ?_ (by assumption)) | (with_reducible refine grow_base ?_ (by assumption))))⟩

end Go.Proofs.YtkipjloapdolbaaGreatDoor
