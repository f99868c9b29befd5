/- The walk of the reference: who judges. -/
import Derived.Test.YtdedllfgeekogaaDoorRows
import Derived.Test.YtdedllfgeekogaaDoorNum
import Derived.Test.YtdedllfgeekogaaDoorBase
import Derived.Test.YtdedllfgeekogaaDoorEvent
import Derived.Test.YtdedllfgeekogaaDoorRule
import Derived.Test.YtdedllfgeekogaaDoorQuote
import Derived.Test.YtdedllfgeekogaaDoorEvent2
import Derived.Test.YtdedllfgeekogaaDoorRefA
import Derived.Test.YtdedllfgeekogaaDoorRefB
import Derived.Test.YtdedllfgeekogaaDoorRefE
import Derived.Test.YtdedllfgeekogaaDoorRefR
import Derived.Test.YtdedllfgeekogaaDoorRefQ
import Derived.Test.YtdedllfgeekogaaDoorJdPlain
import Derived.Test.YtdedllfgeekogaaDoorJudge
import Derived.WalkKit
import Derived.Lib.Hide
import Derived.Deep.RegionHeld3
import Derived.Deep.QuietTactic
import Derived.BigQuiet
namespace Go.Proofs.YtdedllfgeekogaaDoor
open Go.RowKit
set_option maxRecDepth 100000

theorem rAsks_b (m : Int) (i : Nat) (b : Bool) (w : World) (h0 : 0 ≤ m) (h1 : m ≤ 255) (i1 : i ≤ 1000) (hb : bitM m i = b) :
    Calls Tryd.prog 66 #[.int .i64 m, .int .i64 (i : Int)] w fun e w' => e = .returned (.bool b) ∧ w = w' := by
  have h := rAsks_any m i w h0 h1 (by omega) (by omega)
  rw [Int.toNat_natCast, hb] at h
  exact h
theorem asked_no {m : Int} {rs : List (Int × List Int)} {k : Nat} (h : k < rs.length) (hb : bitM m (rs.getD k (0, [])).1.toNat = false) : askedB m rs = false := by
  unfold askedB
  rw [List.all_eq_false]
  refine ⟨rs.getD k (0, []), ?_, by rw [hb]; simp⟩
  rw [List.getD_eq_getElem?_getD, List.getElem?_eq_getElem h]; exact List.getElem_mem h

set_option maxHeartbeats 2000000 in
theorem rSure_any (q n m d p a c : Int) (A : Option Addr) (es : List (Int × Int)) (ec : Nat) (A2 : Option Addr) (rs : List (Int × List Int)) (rc : Nat) (w : World) (hE : EvsAt w A es) (hbe : es.length ≤ 9223372036854775806)
    (hR : RulesAt w A2 rs) (hbr : rs.length ≤ 9223372036854775806) (hgl : ∀ r ∈ rs, r.2.length ≤ 9223372036854775806) :
    Calls Tryd.prog 28 #[.int .i64 q, .agg #[.int .i64 n, .int .i64 m, .int .i64 d, .int .i64 p, .int .i64 a], .int .i64 c, .slice A es.length ec, .slice A2 rs.length rc] w fun e w' => e = .returned (.int .i64 (sureE q n m d p a c es rs)) ∧ Below w.heap.size w w' := by
  have HA := Lib.hid hE
  have HA2 := Lib.hid hR
  have HL := Lib.hid hgl
  have HN := Lib.hid (Box.new w 53 #[.int .i64 n, .int .i64 m, .int .i64 d, .int .i64 p, .int .i64 a])
  obtain ⟨E, hEE⟩ : ∃ E, qcE q n m d p a c = E := ⟨_, rfl⟩
  have HE := Lib.hid hEE
  have HS : Hid (sureE q n m d p a c es rs = if E = 0 then (if evE es = 0 then (if rulesE rs = 0 then sureT m d es rs else rulesE rs) else evE es) else E) := Lib.hid (by unfold sureE; rw [hEE])
  clear hE hR hgl hEE
  go_enter Tryd.func28, Tryd.ntmps28
  go_wp2_with fail
  refine (rQuote_any q n m d p a c _).mono ?_
  rintro e w1 ⟨rfl, hb1⟩
  rw [HE.out]
  have B1 := Lib.hid (HN.out.below hb1)
  by_cases h0 : E = 0
  · have t : (E == 0) = true := by simp [h0]
    have HM := Lib.hid (qcE_mask (HE.out.trans h0))
    have HS2 : Hid (sureE q n m d p a c es rs = if evE es = 0 then (if rulesE rs = 0 then sureT m d es rs else rulesE rs) else evE es) := Lib.hid (by rw [HS.out, if_pos h0])
    clear h0 HS
    go_wp2_with fail
    refine (rEvents_any A ec es _ (HA.out.below (by repeat (first | (with_reducible exact grow_refl _) | (with_reducible assumption) | (with_reducible refine grow_alloc ?_ _) | (with_reducible refine grow_set ?_ (by first | exact Nat.le_refl _ | (simp; done) | (simp; omega) | omega) _) | (with_reducible refine grow_drewN ?_ _) | (with_reducible refine grow_drew ?_) | (with_reducible refine grow_step ?_ (by assumption)) | (with_reducible refine grow_base ?_ (by assumption))))) hbe).mono ?_
    rintro e w2 ⟨rfl, rfl⟩
    obtain ⟨E2, hE2⟩ : ∃ E2, evE es = E2 := ⟨_, rfl⟩
    rw [hE2]
    have HE2 := Lib.hid hE2
    clear hE2
    by_cases h2 : E2 = 0
    · have t2 : (E2 == 0) = true := by simp [h2]
      have HEV := Lib.hid (evE_ok (HE2.out.trans h2))
      have HS3 : Hid (sureE q n m d p a c es rs = if rulesE rs = 0 then sureT m d es rs else rulesE rs) := Lib.hid (by rw [HS2.out, if_pos (HE2.out.trans h2)])
      clear h2 HS2
      go_wp2_with fail
      refine (rRules_any A2 rc rs _ (HA2.out.below (by repeat (first | (with_reducible exact grow_refl _) | (with_reducible assumption) | (with_reducible refine grow_alloc ?_ _) | (with_reducible refine grow_set ?_ (by first | exact Nat.le_refl _ | (simp; done) | (simp; omega) | omega) _) | (with_reducible refine grow_drewN ?_ _) | (with_reducible refine grow_drew ?_) | (with_reducible refine grow_step ?_ (by assumption)) | (with_reducible refine grow_base ?_ (by assumption))))) hbr HL.out).mono ?_
      rintro e w3 ⟨rfl, hb3⟩
      have B3 := Lib.hid (B1.out.below hb3)
      obtain ⟨E3, hE3⟩ : ∃ E3, rulesE rs = E3 := ⟨_, rfl⟩
      rw [hE3]
      have HE3 := Lib.hid hE3
      clear hE3
      by_cases h3 : E3 = 0
      · have t3 : (E3 != 0) = false := by simp [h3]
        have HR0 := Lib.hid (HE3.out.trans h3)
        have HRU := Lib.hid (rulesE_ok (HE3.out.trans h3))
        have HS4 : Hid (sureE q n m d p a c es rs = sureT m d es rs) := Lib.hid (by rw [HS3.out, if_pos (HE3.out.trans h3)])
        clear h3 HS3
        go_wp2_with fail
        refine (rReplay_any A ec es _ (HA.out.below (by repeat (first | (with_reducible exact grow_refl _) | (with_reducible assumption) | (with_reducible refine grow_alloc ?_ _) | (with_reducible refine grow_set ?_ (by first | exact Nat.le_refl _ | (simp; done) | (simp; omega) | omega) _) | (with_reducible refine grow_drewN ?_ _) | (with_reducible refine grow_drew ?_) | (with_reducible refine grow_step ?_ (by assumption)) | (with_reducible refine grow_base ?_ (by assumption))))) hbe HEV.out.2).mono ?_
        rintro e w4 ⟨y0, y1, y2, y3, y4, y5, y6, y7, hy, rfl, hb4⟩
        have HY := Lib.hid hy
        have HYok : Hid (([y0, y1, y2, y3, y4, y5, y6, y7]).all okM = true) := Lib.hid (by rw [hy]; exact evBank_ok es)
        clear hy
        have B4 := Lib.hid (B3.out.below hb4)
        have l4 := B4.out.lt
        obtain ⟨m1, m2⟩ := okMask_yes HM.out.2.2.2.1
        obtain ⟨D, hD⟩ : ∃ D, isM [y0, y1, y2, y3, y4, y5, y6, y7] m = D := ⟨_, rfl⟩
        have HD := Lib.hid hD
        clear hD
        go_wp2_with fail
        have BY := Box.new w4 38 #[.int .i64 y0, .int .i64 y1, .int .i64 y2, .int .i64 y3, .int .i64 y4, .int .i64 y5, .int .i64 y6, .int .i64 y7]
        have q1 := B4.out.alloc_ (.cells #[.int .i64 y0, .int .i64 y1, .int .i64 y2, .int .i64 y3, .int .i64 y4, .int .i64 y5, .int .i64 y6, .int .i64 y7] 38)
        have hB4 : Below w.heap.size w (w4.alloc (.cells #[.int .i64 y0, .int .i64 y1, .int .i64 y2, .int .i64 y3, .int .i64 y4, .int .i64 y5, .int .i64 y6, .int .i64 y7] 38)) := (by repeat (first | (with_reducible exact grow_refl _) | (with_reducible assumption) | (with_reducible refine grow_alloc ?_ _) | (with_reducible refine grow_set ?_ (by first | exact Nat.le_refl _ | (simp; done) | (simp; omega) | omega) _) | (with_reducible refine grow_drewN ?_ _) | (with_reducible refine grow_drew ?_) | (with_reducible refine grow_step ?_ (by assumption)) | (with_reducible refine grow_base ?_ (by assumption))))
        go_region_held3 (fun w' => (∀ i, w'.cell? ⟨w.heap.size, i, none⟩ = (#[.int .i64 n, .int .i64 m, .int .i64 d, .int .i64 p, .int .i64 a] : Array Value)[i]?) ∧ (∀ i, w'.cell? ⟨w4.heap.size, i, none⟩ = (#[.int .i64 y0, .int .i64 y1, .int .i64 y2, .int .i64 y3, .int .i64 y4, .int .i64 y5, .int .i64 y6, .int .i64 y7] : Array Value)[i]?) ∧ Box w' w.heap.size 53 #[.int .i64 n, .int .i64 m, .int .i64 d, .int .i64 p, .int .i64 a] ∧ Box w' w4.heap.size 38 #[.int .i64 y0, .int .i64 y1, .int .i64 y2, .int .i64 y3, .int .i64 y4, .int .i64 y5, .int .i64 y6, .int .i64 y7] ∧ Below w.heap.size w w')
          (first
            | exact ⟨G1.cell, G2.cell, G1, G2, G3⟩
            | exact ⟨q1.cell, BY.cell, q1.drew_, BY.drew_, grow_drew hB4⟩
            | (go_keep; done))
          (first
            | (go_at_call 65; go_split_ands; have p1 : Box _ w.heap.size 53 #[.int .i64 n, .int .i64 m, .int .i64 d, .int .i64 p, .int .i64 a] := (by assumption); have p2 : Box _ w4.heap.size 38 #[.int .i64 y0, .int .i64 y1, .int .i64 y2, .int .i64 y3, .int .i64 y4, .int .i64 y5, .int .i64 y6, .int .i64 y7] := (by assumption); have p3 : Below w.heap.size w _ := (by assumption); refine (rDigest_any y0 y1 y2 y3 y4 y5 y6 y7 m _ m1 m2 HYok.out).mono ?_; rintro e w5 ⟨rfl, hb5⟩; rw [HD.out]; have G1 := p1.below hb5; have G2 := p2.below hb5; have G3 := grow_step p3 hb5; clear p1 p2 p3))
        by_cases hDd : D = d
        · have t4 : (D != d) = false := by simp [hDd]
          have HS5 : Hid (sureE q n m d p a c es rs = if askedB m rs = true then (if fitM rs (evBank es) = true then 0 else 6) else 5) := Lib.hid (by
            rw [HS4.out]; unfold sureT; rw [if_pos (by rw [← HY.out, HD.out]; exact hDd)])
          clear hDd HS4
          have RK : Hid (KeepJ w w4.heap.size w5 #[.int .i64 n, .int .i64 m, .int .i64 d, .int .i64 p, .int .i64 a] #[.int .i64 y0, .int .i64 y1, .int .i64 y2, .int .i64 y3, .int .i64 y4, .int .i64 y5, .int .i64 y6, .int .i64 y7]) := Lib.hid ⟨G1, G2, G3⟩
          clear G1 G2 G3
          go_wp2_with fail
          go_loopw [13, 14] (fun i _ wr => ∃ k : Nat, k ≤ rs.length ∧ i = .int .i64 k ∧ Hid ((rs.take k).all (fun r => bitM m r.1.toNat) = true) ∧ Hid (KeepJ w w4.heap.size wr #[.int .i64 n, .int .i64 m, .int .i64 d, .int .i64 p, .int .i64 a] #[.int .i64 y0, .int .i64 y1, .int .i64 y2, .int .i64 y3, .int .i64 y4, .int .i64 y5, .int .i64 y6, .int .i64 y7])) (fun i _ _ => rs.length - (intOf i).toNat)
          case atStart => exact ⟨0, Nat.zero_le _, rfl, Lib.hid rfl, RK⟩
          case round =>
            obtain ⟨k, hk, rfl, HF, HK⟩ := hrel
            have K1 := HK.out.1
            have K2 := HK.out.2.1
            have K3 := HK.out.2.2
            by_cases hlt : k < rs.length
            · obtain ⟨b, off, GA, gc, rfl, hblt, h1, h2, hI⟩ := (HA2.out.below K3) k hlt
              have hmem : rs.getD k (0, []) ∈ rs := by rw [List.getD_eq_getElem?_getD, List.getElem?_eq_getElem hlt]; exact List.getElem_mem hlt
              have hreg := okReg_yes (HRU.out.2 _ hmem).1
              have hs := take_snoc rs (0, []) k hlt
              have hno := asked_no (m := m) hlt
              obtain ⟨⟨x, g⟩, hxe⟩ : ∃ x, rs.getD k (0, []) = x := ⟨_, rfl⟩
              rw [hxe] at h1 h2 hI hreg hs hno
              simp only at h1 h2 hI hreg hno
              obtain ⟨r, rfl⟩ : ∃ r : Nat, x = (r : Int) := ⟨x.toNat, by omega⟩
              rw [Int.toNat_natCast] at hno
              have HNO := Lib.hid hno
              have HSN := Lib.hid hs
              have gk : (k : Int) < (rs.length : Int) := by omega
              have r1 : r ≤ 1000 := by omega
              have cQ := K1.cell
              have lQ := K1.lt
              clear hxe hI hmem hno hs h2
              cases hbit : bitM m r
              · have HS6 : Hid (sureE q n m d p a c es rs = 5) := Lib.hid (by rw [HS5.out, HNO.out hbit]; rfl)
                have HB := Lib.hid hbit
                clear hbit HNO
                go_wp2_with fail
                go_quiet ((go_at_call 66; exact Calls.quiet_of_same ((rAsks_b _ _ _ _ m1 m2 r1 HB.out).mono (fun _ _ h => ⟨h.1, h.2.symm⟩))))
                go_wp2_with fail
                go_ret
                exact ⟨by rw [HS6.out]; rfl, grow_drewN K3 _⟩
              · have HB := Lib.hid hbit
                have HF2 : Hid ((rs.take (k + 1)).all (fun r => bitM m r.1.toNat) = true) := Lib.hid (by
                  rw [HSN.out, List.all_append, HF.out, List.all_cons, List.all_nil]
                  simp only [Int.toNat_natCast]
                  rw [hbit]; rfl)
                clear hbit HNO
                go_wp2_with fail
                go_quiet ((go_at_call 66; exact Calls.quiet_of_same ((rAsks_b _ _ _ _ m1 m2 r1 HB.out).mono (fun _ _ h => ⟨h.1, h.2.symm⟩))))
                go_wp2_with fail
                go_roundw
                case rel => exact ⟨k + 1, by omega, by go_num, HF2, Lib.hid (HK.out.below (grow_drewN (grow_refl _) _))⟩
                case measure => simp [intOf]; omega
            · have gk : ¬ ((k : Int) < (rs.length : Int)) := by omega
              have HAb : Hid (askedB m rs = true) := Lib.hid (by have := HF.out; rwa [List.take_of_length_le (by omega)] at this)
              have HS6 : Hid (sureE q n m d p a c es rs = if fitM rs [y0, y1, y2, y3, y4, y5, y6, y7] = true then 0 else 6) := Lib.hid (by rw [HS5.out, HAb.out, if_pos rfl, HY.out])
              have cK := K2.cell
              have lK := K2.lt
              go_wp2_with fail
              clear cK
              refine (rFits_any A2 rc rs y0 y1 y2 y3 y4 y5 y6 y7 _ (HA2.out.below K3) HR0.out).mono ?_
              rintro e w7 ⟨rfl, hb7⟩
              obtain ⟨Ft, hFt⟩ : ∃ Ft, fitM rs [y0, y1, y2, y3, y4, y5, y6, y7] = Ft := ⟨_, rfl⟩
              rw [hFt] at HS6 ⊢
              clear hFt
              cases Ft
              · go_wp2_with fail
                go_ret
                exact ⟨by rw [HS6.out]; rfl, grow_step K3 hb7⟩
              · go_wp2_with fail
                go_ret
                exact ⟨by rw [HS6.out]; rfl, grow_step K3 hb7⟩
        · have t4 : (D != d) = true := by simp [hDd]
          have HS5 : Hid (sureE q n m d p a c es rs = 3) := Lib.hid (by
            rw [HS4.out]; unfold sureT; rw [if_neg (by rw [← HY.out, HD.out]; exact hDd)])
          clear hDd HS4
          go_wp2_with fail
          go_ret
          exact ⟨by rw [HS5.out]; rfl, G3⟩
      · have t3 : (E3 != 0) = true := by simpa using h3
        have HF : Hid (sureE q n m d p a c es rs = E3) := Lib.hid (by rw [HS3.out, if_neg (by rw [HE3.out]; exact h3), HE3.out])
        clear h3 HS3
        go_wp2_with fail
        go_ret
        exact ⟨by rw [HF.out]; rfl, (by repeat (first | (with_reducible exact grow_refl _) | (with_reducible assumption) | (with_reducible refine grow_alloc ?_ _) | (with_reducible refine grow_set ?_ (by first | exact Nat.le_refl _ | (simp; done) | (simp; omega) | omega) _) | (with_reducible refine grow_drewN ?_ _) | (with_reducible refine grow_drew ?_) | (with_reducible refine grow_step ?_ (by assumption)) | (with_reducible refine grow_base ?_ (by assumption))))⟩
    · have t2 : (E2 == 0) = false := by simpa using h2
      have t2' : (E2 != 0) = true := by simpa using h2
      have HF : Hid (sureE q n m d p a c es rs = E2) := Lib.hid (by rw [HS2.out, if_neg (by rw [HE2.out]; exact h2), HE2.out])
      clear h2 HS2
      go_wp2_with fail
      go_ret
      exact ⟨by rw [HF.out]; rfl, (by repeat (first | (with_reducible exact grow_refl _) | (with_reducible assumption) | (with_reducible refine grow_alloc ?_ _) | (with_reducible refine grow_set ?_ (by first | exact Nat.le_refl _ | (simp; done) | (simp; omega) | omega) _) | (with_reducible refine grow_drewN ?_ _) | (with_reducible refine grow_drew ?_) | (with_reducible refine grow_step ?_ (by assumption)) | (with_reducible refine grow_base ?_ (by assumption))))⟩
  · have t : (E == 0) = false := by simpa using h0
    have t' : (E != 0) = true := by simpa using h0
    have HF : Hid (sureE q n m d p a c es rs = E) := Lib.hid (by rw [HS.out, if_neg h0])
    clear h0 HS
    go_wp2_with fail
    go_ret
    exact ⟨by rw [HF.out]; rfl, (by repeat (first | (with_reducible exact grow_refl _) | (with_reducible assumption) | (with_reducible refine grow_alloc ?_ _) | (with_reducible refine grow_set ?_ (by first | exact Nat.le_refl _ | (simp; done) | (simp; omega) | omega) _) | (with_reducible refine grow_drewN ?_ _) | (with_reducible refine grow_drew ?_) | (with_reducible refine grow_step ?_ (by assumption)) | (with_reducible refine grow_base ?_ (by assumption))))⟩

end Go.Proofs.YtdedllfgeekogaaDoor
