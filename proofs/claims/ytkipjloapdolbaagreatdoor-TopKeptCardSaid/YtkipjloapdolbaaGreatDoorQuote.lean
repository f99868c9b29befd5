/- The walks of package quote. A quote: nonce, mask, digest, point, answer. quote.Check. -/
import Derived.Test.YtkipjloapdolbaaGreatDoorRows
import Derived.Test.YtkipjloapdolbaaGreatDoorNum
import Derived.Test.YtkipjloapdolbaaGreatDoorBase
import Derived.Test.YtkipjloapdolbaaGreatDoorMeas
import Derived.Test.YtkipjloapdolbaaGreatDoorKey
import Derived.Test.YtkipjloapdolbaaGreatDoorBank
import Derived.WalkKit
import Derived.Lib.Hide
import Derived.Deep.RegionHeld3
import Derived.StillTailTactics
namespace Go.Proofs.YtkipjloapdolbaaGreatDoor
open Go.RowKit

def qtE (d : Int) (m : Int) (b : List Int) : Int := if okM d then digE b m else 1
def qtB (d : Int) (m : Int) (b : List Int) : Bool := okM d && (decide (digE b m = 0) && (digM b m == d))


/-! A quote that is made. -/
def mkOk (x k n m : Int) (b : List Int) : Bool := okM n && (decide (digE b m = 0) && decide (sgE x k (rowM [n, m, digM b m]) = 0))
def mkE (x k n m : Int) (b : List Int) : Int := if okM n then (if digE b m = 0 then sgE x k (rowM [n, m, digM b m]) else digE b m) else 1
def mkV (x k n m : Int) (b : List Int) : Int × Int × Int × Int × Int := if mkE x k n m b = 0 then (n, m, digM b m, sgP x k (rowM [n, m, digM b m]), sgA x k (rowM [n, m, digM b m])) else (0, 0, 0, 0, 0)
theorem digE_mask {b : List Int} {m : Int} (h : digE b m = 0) : okMask m = true := by
  unfold digE at h
  cases hm : okMask m
  · rw [hm, Bool.and_false] at h; cases h
  · rfl
theorem okM_of_mask {m : Int} (h : okMask m = true) : okM m = true := by have := okMask_yes h; exact okM_mk (by omega) (by omega)

set_option maxHeartbeats 1000000 in
theorem quoteMake_any (x k n m : Int) (x0 x1 x2 x3 x4 x5 x6 x7 : Int) (w : World) :
    Calls Tryz.prog 18 #[.int .i64 x, .int .i64 k, .int .i64 n, .int .i64 m, .agg #[.int .i64 x0, .int .i64 x1, .int .i64 x2, .int .i64 x3, .int .i64 x4, .int .i64 x5, .int .i64 x6, .int .i64 x7]] w fun e w' => (∀ v, v = mkV x k n m [x0, x1, x2, x3, x4, x5, x6, x7] → e = .returned (.tuple #[.agg #[.int .i64 v.1, .int .i64 v.2.1, .int .i64 v.2.2.1, .int .i64 v.2.2.2.1, .int .i64 v.2.2.2.2], errV (mkE x k n m [x0, x1, x2, x3, x4, x5, x6, x7])])) ∧ Below w.heap.size w w' := by
  have en := fun k w => err_neq k w
  have gn := fun o k w => err_guard_neq o k w
  have bz : Box (((w.alloc (.cells #[.int .i64 x0, .int .i64 x1, .int .i64 x2, .int .i64 x3, .int .i64 x4, .int .i64 x5, .int .i64 x6, .int .i64 x7] 54)).alloc (.cells #[.int .i64 0, .int .i64 0, .int .i64 0, .int .i64 0, .int .i64 0] 50))) (w.heap.size + 1) 50 #[.int .i64 0, .int .i64 0, .int .i64 0, .int .i64 0, .int .i64 0] := by
    have := Box.new (w.alloc (.cells #[.int .i64 x0, .int .i64 x1, .int .i64 x2, .int .i64 x3, .int .i64 x4, .int .i64 x5, .int .i64 x6, .int .i64 x7] 54)) 50 #[.int .i64 0, .int .i64 0, .int .i64 0, .int .i64 0, .int .i64 0]
    simpa using this
  cases hn : okM n
  · have HF : Hid (mkV x k n m [x0, x1, x2, x3, x4, x5, x6, x7] = (0, 0, 0, 0, 0) ∧ mkE x k n m [x0, x1, x2, x3, x4, x5, x6, x7] = 1) := Lib.hid (by
      have e : mkE x k n m [x0, x1, x2, x3, x4, x5, x6, x7] = 1 := by unfold mkE; rw [hn]; rfl
      refine ⟨?_, e⟩; unfold mkV; rw [e]; rfl)
    go_enter Tryz.func18, Tryz.ntmps18
    go_wp2_with (go_at_call 34; refine (mIs_any _ _).mono ?_; rintro e w' ⟨rfl, rfl⟩)
    refine bodyPost_ret (v := .tuple #[.agg #[.int .i64 0, .int .i64 0, .int .i64 0, .int .i64 0, .int .i64 0], errV 1]) (ret_cell_tmp Tryz.results18 rfl bz Tryz.underlying50 rfl (by kernel_rfl)) rfl ?_
    refine ⟨?_, (by repeat (first | (with_reducible exact grow_refl _) | (with_reducible assumption) | (with_reducible refine grow_alloc ?_ _) | (with_reducible refine grow_set ?_ (by first | exact Nat.le_refl _ | (simp; done) | (simp; omega) | omega) _) | (with_reducible refine grow_drewN ?_ _) | (with_reducible refine grow_drew ?_) | (with_reducible refine grow_step ?_ (by assumption)) | (with_reducible refine grow_base ?_ (by assumption))))⟩
    rintro v rfl
    rw [HF.out.1, HF.out.2]
  · by_cases hd : digE [x0, x1, x2, x3, x4, x5, x6, x7] m = 0
    · have km := okM_of_mask (digE_mask hd)
      have hok := digM_ok [x0, x1, x2, x3, x4, x5, x6, x7] m
      obtain ⟨d, hdm⟩ : ∃ d, digM [x0, x1, x2, x3, x4, x5, x6, x7] m = d := ⟨_, rfl⟩
      rw [hdm] at hok
      have hrow : ([n, m, d]).all okM = true := by simp [hn, km, hok]
      have kr := rowM_ok [n, m, d]
      obtain ⟨r, hr⟩ : ∃ r, rowM [n, m, d] = r := ⟨_, rfl⟩
      obtain ⟨E, hE⟩ : ∃ E, sgE x k r = E := ⟨_, rfl⟩
      have HF : Hid (mkE x k n m [x0, x1, x2, x3, x4, x5, x6, x7] = E) := Lib.hid (by unfold mkE; rw [hn, if_pos hd, hdm, hr, hE]; rfl)
      have HV : Hid (E = 0 → mkV x k n m [x0, x1, x2, x3, x4, x5, x6, x7] = (n, m, d, sgP x k r, sgA x k r)) := Lib.hid (fun h => by unfold mkV; rw [HF.out, if_pos h, hdm, hr])
      have HW : Hid (E ≠ 0 → mkV x k n m [x0, x1, x2, x3, x4, x5, x6, x7] = (0, 0, 0, 0, 0)) := Lib.hid (fun h => by unfold mkV; rw [HF.out, if_neg h])
      have HD := Lib.hid (And.intro hd hdm)
      have HR := Lib.hid hr
      have HE := Lib.hid hE
      have HRO := Lib.hid hrow
      clear hd hdm hr hE hrow kr
      by_cases h0 : E = 0
      · subst h0
        have HV := Lib.hid (HV.out rfl)
        go_enter Tryz.func18, Tryz.ntmps18
        go_wp2_with (go_at_call 34; refine (mIs_any _ _).mono ?_; rintro e w' ⟨rfl, rfl⟩)
        refine (digest_any x0 x1 x2 x3 x4 x5 x6 x7 _ _).mono ?_
        rintro e w1 ⟨rfl, hb1⟩
        rw [HD.out.1, HD.out.2]
        have bz1 := bz.below hb1
        have cz := bz1.cell; have fz := bz1.frozen; have lz := bz1.lt
        have g1 : Below w.heap.size w w1 := (by repeat (first | (with_reducible exact grow_refl _) | (with_reducible assumption) | (with_reducible refine grow_alloc ?_ _) | (with_reducible refine grow_set ?_ (by first | exact Nat.le_refl _ | (simp; done) | (simp; omega) | omega) _) | (with_reducible refine grow_drewN ?_ _) | (with_reducible refine grow_drew ?_) | (with_reducible refine grow_step ?_ (by assumption)) | (with_reducible refine grow_base ?_ (by assumption))))
        go_wp2_with fail
        refine (row_any _ 3 [n, m, d] _ (IntsAt.new_ _ _ _ _) HRO.out (by simp)).mono ?_
        rintro e w' ⟨rfl, rfl⟩
        rw [HR.out]
        go_wp2_with fail
        refine (sign_any x k r _).mono ?_
        rintro e w2 ⟨rfl, hb2⟩
        rw [HE.out]
        have bz2 := (Box.alloc_ bz1 _).below hb2
        have cz2 := bz2.cell; have fz2 := bz2.frozen; have lz2 := bz2.lt
        have g2 : Below w.heap.size w w2 := grow_step (grow_alloc g1 _) hb2
        clear cz fz lz
        go_wp2_with fail
        refine bodyPost_ret (v := .tuple #[.agg #[.int .i64 n, .int .i64 m, .int .i64 d, .int .i64 (sgP x k r), .int .i64 (sgA x k r)], errV 0]) (ret_cell_tmp Tryz.results18 rfl ((bz2.fill5 _ _ _ _ _).alloc_ _) Tryz.underlying50 rfl (by kernel_rfl)) rfl ?_
        refine ⟨?_, (by repeat (first | (with_reducible exact grow_refl _) | (with_reducible assumption) | (with_reducible refine grow_alloc ?_ _) | (with_reducible refine grow_set ?_ (by first | exact Nat.le_refl _ | (simp; done) | (simp; omega) | omega) _) | (with_reducible refine grow_drewN ?_ _) | (with_reducible refine grow_drew ?_) | (with_reducible refine grow_step ?_ (by assumption)) | (with_reducible refine grow_base ?_ (by assumption))))⟩
        rintro v rfl
        rw [HV.out, HF.out]
        all_goals trivial
      · have t : (E != 0) = true := by simpa using h0
        have HW2 := Lib.hid (HW.out h0)
        clear h0
        go_enter Tryz.func18, Tryz.ntmps18
        go_wp2_with (go_at_call 34; refine (mIs_any _ _).mono ?_; rintro e w' ⟨rfl, rfl⟩)
        refine (digest_any x0 x1 x2 x3 x4 x5 x6 x7 _ _).mono ?_
        rintro e w1 ⟨rfl, hb1⟩
        rw [HD.out.1, HD.out.2]
        have bz1 := bz.below hb1
        have cz := bz1.cell; have fz := bz1.frozen; have lz := bz1.lt
        have g1 : Below w.heap.size w w1 := (by repeat (first | (with_reducible exact grow_refl _) | (with_reducible assumption) | (with_reducible refine grow_alloc ?_ _) | (with_reducible refine grow_set ?_ (by first | exact Nat.le_refl _ | (simp; done) | (simp; omega) | omega) _) | (with_reducible refine grow_drewN ?_ _) | (with_reducible refine grow_drew ?_) | (with_reducible refine grow_step ?_ (by assumption)) | (with_reducible refine grow_base ?_ (by assumption))))
        go_wp2_with fail
        refine (row_any _ 3 [n, m, d] _ (IntsAt.new_ _ _ _ _) HRO.out (by simp)).mono ?_
        rintro e w' ⟨rfl, rfl⟩
        rw [HR.out]
        go_wp2_with fail
        refine (sign_any x k r _).mono ?_
        rintro e w2 ⟨rfl, hb2⟩
        rw [HE.out]
        have bz2 := (Box.alloc_ bz1 _).below hb2
        have cz2 := bz2.cell; have fz2 := bz2.frozen; have lz2 := bz2.lt
        have g2 : Below w.heap.size w w2 := grow_step (grow_alloc g1 _) hb2
        clear cz fz lz
        go_wp2_with fail
        refine bodyPost_ret (v := .tuple #[.agg #[.int .i64 0, .int .i64 0, .int .i64 0, .int .i64 0, .int .i64 0], errV E]) (ret_cell_tmp Tryz.results18 rfl ((bz2.fill5 _ _ _ _ _).alloc_ _) Tryz.underlying50 rfl (by kernel_rfl)) rfl ?_
        refine ⟨?_, (by repeat (first | (with_reducible exact grow_refl _) | (with_reducible assumption) | (with_reducible refine grow_alloc ?_ _) | (with_reducible refine grow_set ?_ (by first | exact Nat.le_refl _ | (simp; done) | (simp; omega) | omega) _) | (with_reducible refine grow_drewN ?_ _) | (with_reducible refine grow_drew ?_) | (with_reducible refine grow_step ?_ (by assumption)) | (with_reducible refine grow_base ?_ (by assumption))))⟩
        rintro v rfl
        rw [HW2.out, HF.out]
    · have hd1 : digE [x0, x1, x2, x3, x4, x5, x6, x7] m = 1 := by rcases digE_01 [x0, x1, x2, x3, x4, x5, x6, x7] m with h | h; exact absurd h hd; exact h
      have HF : Hid (mkV x k n m [x0, x1, x2, x3, x4, x5, x6, x7] = (0, 0, 0, 0, 0) ∧ mkE x k n m [x0, x1, x2, x3, x4, x5, x6, x7] = 1) := Lib.hid (by
        have e : mkE x k n m [x0, x1, x2, x3, x4, x5, x6, x7] = 1 := by unfold mkE; rw [hn, if_neg hd]; exact hd1
        refine ⟨?_, e⟩; unfold mkV; rw [e]; rfl)
      have HD := Lib.hid hd1
      clear hd hd1
      go_enter Tryz.func18, Tryz.ntmps18
      go_wp2_with (first | (go_at_call 34; refine (mIs_any _ _).mono ?_; rintro e w' ⟨rfl, rfl⟩) | (go_at_call 35; refine (digest_any x0 x1 x2 x3 x4 x5 x6 x7 _ _).mono ?_; rintro e w1 ⟨rfl, hb1⟩; rw [HD.out]; have bz1 := bz.below hb1; have cz := bz1.cell; have fz := bz1.frozen; have lz := bz1.lt))
      refine bodyPost_ret (v := .tuple #[.agg #[.int .i64 0, .int .i64 0, .int .i64 0, .int .i64 0, .int .i64 0], errV 1]) (ret_cell_tmp Tryz.results18 rfl (bz1.fill5 _ _ _ _ _) Tryz.underlying50 rfl (by kernel_rfl)) rfl ?_
      refine ⟨?_, (by repeat (first | (with_reducible exact grow_refl _) | (with_reducible assumption) | (with_reducible refine grow_alloc ?_ _) | (with_reducible refine grow_set ?_ (by first | exact Nat.le_refl _ | (simp; done) | (simp; omega) | omega) _) | (with_reducible refine grow_drewN ?_ _) | (with_reducible refine grow_drew ?_) | (with_reducible refine grow_step ?_ (by assumption)) | (with_reducible refine grow_base ?_ (by assumption))))⟩
      rintro v rfl
      rw [HF.out.1, HF.out.2]

end Go.Proofs.YtkipjloapdolbaaGreatDoor

namespace Go.Proofs.YtkipjloapdolbaaGreatDoor
open Go.RowKit

def qcOk (n m d c : Int) : Bool := okM c && (okM n && (okM d && okMask m))
def qcE (q n m d p a c : Int) : Int := if qcOk n m d c then (if rightE q (rowM [n, m, d]) p a = 0 then (if n = c then 0 else 7) else rightE q (rowM [n, m, d]) p a) else 1
theorem IntsAt.drew {w : World} {A : Option Addr} {xs : List Int} (h : IntsAt w A xs) : IntsAt w.drew A xs := h

set_option maxHeartbeats 1000000 in
theorem quoteCheck_any (q n m d p a c : Int) (w : World) :
    Calls Tryz.prog 40 #[.int .i64 q, .agg #[.int .i64 n, .int .i64 m, .int .i64 d, .int .i64 p, .int .i64 a], .int .i64 c] w fun e w' => e = .returned (errV (qcE q n m d p a c)) ∧ Below w.heap.size w w' := by
  have en := fun k w => err_neq k w
  have gn := fun o k w => err_guard_neq o k w
  by_cases hok : qcOk n m d c = true
  · have hs := hok
    unfold qcOk at hs
    simp only [Bool.and_eq_true] at hs
    obtain ⟨hc, hn, hd, hm⟩ := hs
    have km := okM_of_mask hm
    have hrow : ([n, m, d]).all okM = true := by simp [hn, km, hd]
    obtain ⟨r, hr⟩ : ∃ r, rowM [n, m, d] = r := ⟨_, rfl⟩
    obtain ⟨E, hE⟩ : ∃ E, rightE q r p a = E := ⟨_, rfl⟩
    have HF : Hid (qcE q n m d p a c = if E = 0 then (if n = c then 0 else 7) else E) := Lib.hid (by unfold qcE; rw [if_pos hok, hr, hE])
    have HR := Lib.hid hr
    have HE := Lib.hid hE
    have HRO := Lib.hid hrow
    obtain ⟨m1, m2⟩ := okMask_yes hm
    clear hr hE hrow hok km
    have hB0 := grow_drew (grow_alloc (grow_refl w) (.cells #[.int .i64 n, .int .i64 m, .int .i64 d, .int .i64 p, .int .i64 a] 50))
    have b0 : Box (w.alloc (.cells #[.int .i64 n, .int .i64 m, .int .i64 d, .int .i64 p, .int .i64 a] 50)).drew w.heap.size 50 #[.int .i64 n, .int .i64 m, .int .i64 d, .int .i64 p, .int .i64 a] := Box.new _ _ _
    have hI : IntsAt ((w.alloc (.cells #[.int .i64 n, .int .i64 m, .int .i64 d, .int .i64 p, .int .i64 a] 50)).alloc (.cells #[.int .i64 n, .int .i64 m, .int .i64 d] 3)).drew (some ⟨w.heap.size + 1, 0, none⟩) [n, m, d] := by
      have h := IntsAt.new_ (w.alloc (.cells #[.int .i64 n, .int .i64 m, .int .i64 d, .int .i64 p, .int .i64 a] 50)) 3 [n, m, d] (0, 0)
      have e : (w.alloc (.cells #[.int .i64 n, .int .i64 m, .int .i64 d, .int .i64 p, .int .i64 a] 50)).heap.size = w.heap.size + 1 := by simp
      rw [e] at h
      exact h
    go_enter Tryz.func40, Tryz.ntmps40
    go_wp2_with (first | (go_at_call 34; refine (mIs_any _ _).mono ?_; rintro e w' ⟨rfl, rfl⟩) | (go_at_call 61; refine (mask_any _ _).mono ?_; rintro e w' ⟨rfl, rfl⟩))
    go_region_held3 (fun w' => (∀ i, w'.cell? ⟨w.heap.size, i, none⟩ = (#[.int .i64 n, .int .i64 m, .int .i64 d, .int .i64 p, .int .i64 a] : Array Value)[i]?) ∧ Box w' w.heap.size 50 #[.int .i64 n, .int .i64 m, .int .i64 d, .int .i64 p, .int .i64 a] ∧ Below w.heap.size w w')
      (first
        | exact ⟨E1.cell, E1, E3⟩
        | exact ⟨b0.cell, b0, hB0⟩
        | (go_split_ands; have p1 : Box _ w.heap.size 50 #[.int .i64 n, .int .i64 m, .int .i64 d, .int .i64 p, .int .i64 a] := (by assumption); have p3 : Below w.heap.size w _ := (by assumption); first | exact ⟨(Box.alloc_ p1 _).cell, Box.alloc_ p1 _, grow_alloc p3 _⟩ | exact ⟨(Box.drew_ (Box.alloc_ p1 _)).cell, Box.drew_ (Box.alloc_ p1 _), grow_drew (grow_alloc p3 _)⟩)
        | (go_keep; done))
      (first
        | (go_at_call 37; go_split_ands; have p1 : Box _ w.heap.size 50 #[.int .i64 n, .int .i64 m, .int .i64 d, .int .i64 p, .int .i64 a] := (by assumption); have p3 : Below w.heap.size w _ := (by assumption); refine (row_any _ 3 [n, m, d] _ hI HRO.out (by simp)).mono ?_; rintro e w2 ⟨rfl, rfl⟩; rw [HR.out])
        | (go_at_call 59; go_split_ands; have p1 : Box _ w.heap.size 50 #[.int .i64 n, .int .i64 m, .int .i64 d, .int .i64 p, .int .i64 a] := (by assumption); have p3 : Below w.heap.size w _ := (by assumption); refine (right_any q r p a _).mono ?_; rintro e w3 ⟨rfl, hb3⟩; rw [HE.out]; have E1 := p1.below hb3; have E3 := grow_step p3 hb3; clear p1 p3))
    have cE := E1.cell; have lE := E1.lt
    by_cases h0 : E = 0
    · by_cases hnc : n = c
      · have HQ : Hid (qcE q n m d p a c = 0) := Lib.hid (by rw [HF.out, if_pos h0, if_pos hnc])
        have t : (n != c) = false := by simp [hnc]
        have t2 : (E != 0) = false := by simp [h0]
        clear HF HE hnc h0 hI
        go_wp2_with fail
        go_ret
        exact ⟨by rw [HQ.out]; rfl, E3⟩
      · have HQ : Hid (qcE q n m d p a c = 7) := Lib.hid (by rw [HF.out, if_pos h0, if_neg hnc])
        have t : (n != c) = true := by simp [hnc]
        have t2 : (E != 0) = false := by simp [h0]
        clear HF HE hnc h0 hI
        go_wp2_with fail
        go_ret
        exact ⟨by rw [HQ.out]; rfl, E3⟩
    · have HQ : Hid (qcE q n m d p a c = E) := Lib.hid (by rw [HF.out, if_neg h0])
      have t2 : (E != 0) = true := by simp [h0]
      clear HF HE h0 hI
      go_wp2_with fail
      go_ret
      exact ⟨by rw [HQ.out]; rfl, E3⟩
  · have HF : Hid (qcE q n m d p a c = 1) := Lib.hid (by unfold qcE; rw [if_neg hok])
    have hs : qcOk n m d c = false := by simpa using hok
    clear hok
    unfold qcOk at hs
    cases hc : okM c
    · go_enter Tryz.func40, Tryz.ntmps40
      go_wp2_with (first | (go_at_call 34; refine (mIs_any _ _).mono ?_; rintro e w' ⟨rfl, rfl⟩) | (go_at_call 61; refine (mask_any _ _).mono ?_; rintro e w' ⟨rfl, rfl⟩))
      go_ret
      exact ⟨by rw [HF.out]; rfl, (by repeat (first | (with_reducible exact grow_refl _) | (with_reducible assumption) | (with_reducible refine grow_alloc ?_ _) | (with_reducible refine grow_set ?_ (by first | exact Nat.le_refl _ | (simp; done) | (simp; omega) | omega) _) | (with_reducible refine grow_drewN ?_ _) | (with_reducible refine grow_drew ?_) | (with_reducible refine grow_step ?_ (by assumption)) | (with_reducible refine grow_base ?_ (by assumption))))⟩
    · cases hn : okM n
      · go_enter Tryz.func40, Tryz.ntmps40
        go_wp2_with (first | (go_at_call 34; refine (mIs_any _ _).mono ?_; rintro e w' ⟨rfl, rfl⟩) | (go_at_call 61; refine (mask_any _ _).mono ?_; rintro e w' ⟨rfl, rfl⟩))
        go_ret
        exact ⟨by rw [HF.out]; rfl, (by repeat (first | (with_reducible exact grow_refl _) | (with_reducible assumption) | (with_reducible refine grow_alloc ?_ _) | (with_reducible refine grow_set ?_ (by first | exact Nat.le_refl _ | (simp; done) | (simp; omega) | omega) _) | (with_reducible refine grow_drewN ?_ _) | (with_reducible refine grow_drew ?_) | (with_reducible refine grow_step ?_ (by assumption)) | (with_reducible refine grow_base ?_ (by assumption))))⟩
      · cases hd : okM d
        · go_enter Tryz.func40, Tryz.ntmps40
          go_wp2_with (first | (go_at_call 34; refine (mIs_any _ _).mono ?_; rintro e w' ⟨rfl, rfl⟩) | (go_at_call 61; refine (mask_any _ _).mono ?_; rintro e w' ⟨rfl, rfl⟩))
          go_ret
          exact ⟨by rw [HF.out]; rfl, (by repeat (first | (with_reducible exact grow_refl _) | (with_reducible assumption) | (with_reducible refine grow_alloc ?_ _) | (with_reducible refine grow_set ?_ (by first | exact Nat.le_refl _ | (simp; done) | (simp; omega) | omega) _) | (with_reducible refine grow_drewN ?_ _) | (with_reducible refine grow_drew ?_) | (with_reducible refine grow_step ?_ (by assumption)) | (with_reducible refine grow_base ?_ (by assumption))))⟩
        · have hm : okMask m = false := by rw [hc, hn, hd] at hs; simpa using hs
          go_enter Tryz.func40, Tryz.ntmps40
          go_wp2_with (first | (go_at_call 34; refine (mIs_any _ _).mono ?_; rintro e w' ⟨rfl, rfl⟩) | (go_at_call 61; refine (mask_any _ _).mono ?_; rintro e w' ⟨rfl, rfl⟩))
          go_ret
          exact ⟨by rw [HF.out]; rfl, (by repeat (first | (with_reducible exact grow_refl _) | (with_reducible assumption) | (with_reducible refine grow_alloc ?_ _) | (with_reducible refine grow_set ?_ (by first | exact Nat.le_refl _ | (simp; done) | (simp; omega) | omega) _) | (with_reducible refine grow_drewN ?_ _) | (with_reducible refine grow_drew ?_) | (with_reducible refine grow_step ?_ (by assumption)) | (with_reducible refine grow_base ?_ (by assumption))))⟩

end Go.Proofs.YtkipjloapdolbaaGreatDoor
