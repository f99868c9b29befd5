/- The walks of the reference: quotes. -/
import Derived.Test.YtdedllfgeekogaaDoorRows
import Derived.Test.YtdedllfgeekogaaDoorNum
import Derived.Test.YtdedllfgeekogaaDoorBase
import Derived.Test.YtdedllfgeekogaaDoorMeas
import Derived.Test.YtdedllfgeekogaaDoorQuote
import Derived.Test.YtdedllfgeekogaaDoorRefA
import Derived.Test.YtdedllfgeekogaaDoorRefB
import Derived.Test.YtdedllfgeekogaaDoorRefK
import Derived.WalkKit
import Derived.Lib.Hide
import Derived.Deep.RegionHeld3
import Derived.StillTailTactics
namespace Go.Proofs.YtdedllfgeekogaaDoor
open Go.RowKit
set_option maxRecDepth 100000

set_option maxHeartbeats 1000000 in
theorem rQuote_any (q n m d p a c : Int) (w : World) :
    Calls Tryd.prog 62 #[.int .i64 q, .agg #[.int .i64 n, .int .i64 m, .int .i64 d, .int .i64 p, .int .i64 a], .int .i64 c] w fun e w' => e = .returned (.int .i64 (qcE q n m d p a c)) ∧ Below w.heap.size w w' := by
  by_cases hok : qcOk n m d c = true
  · have hs := hok
    unfold qcOk at hs
    simp only [Bool.and_eq_true] at hs
    obtain ⟨hc, hn, hd, hm⟩ := hs
    have km := okM_of_mask hm
    have hrow : ([n, m, d]).all okM = true := by simp [hn, km, hd]
    obtain ⟨r, hr⟩ : ∃ r, rowM [n, m, d] = r := ⟨_, rfl⟩
    obtain ⟨E, hE⟩ : ∃ E, rightE q r p a = E := ⟨_, rfl⟩
    have HF : Hid (qcE q n m d p a c = if E = 0 then (if n = c then 0 else 7) else E) := Lib.hid (by unfold qcE; rw [if_pos hok, hr, hE])
    have HR := Lib.hid hr
    have HE := Lib.hid hE
    have HRO := Lib.hid hrow
    obtain ⟨m1, m2⟩ := okMask_yes hm
    clear hr hE hrow hok km
    have hB0 := grow_drew (grow_alloc (grow_refl w) (.cells #[.int .i64 n, .int .i64 m, .int .i64 d, .int .i64 p, .int .i64 a] 53))
    have b0 : Box (w.alloc (.cells #[.int .i64 n, .int .i64 m, .int .i64 d, .int .i64 p, .int .i64 a] 53)).drew w.heap.size 53 #[.int .i64 n, .int .i64 m, .int .i64 d, .int .i64 p, .int .i64 a] := Box.new _ _ _
    have hI : IntsAt ((w.alloc (.cells #[.int .i64 n, .int .i64 m, .int .i64 d, .int .i64 p, .int .i64 a] 53)).alloc (.cells #[.int .i64 n, .int .i64 m, .int .i64 d] 3)).drew (some ⟨w.heap.size + 1, 0, none⟩) [n, m, d] := by
      have h := IntsAt.new_ (w.alloc (.cells #[.int .i64 n, .int .i64 m, .int .i64 d, .int .i64 p, .int .i64 a] 53)) 3 [n, m, d] (0, 0)
      have e : (w.alloc (.cells #[.int .i64 n, .int .i64 m, .int .i64 d, .int .i64 p, .int .i64 a] 53)).heap.size = w.heap.size + 1 := by simp
      rw [e] at h
      exact h
    go_enter Tryd.func62, Tryd.ntmps62
    go_wp2_with (go_at_call 24; refine (rIs_any _ _).mono ?_; rintro e w' ⟨rfl, rfl⟩)
    go_region_held3 (fun w' => (∀ i, w'.cell? ⟨w.heap.size, i, none⟩ = (#[.int .i64 n, .int .i64 m, .int .i64 d, .int .i64 p, .int .i64 a] : Array Value)[i]?) ∧ Box w' w.heap.size 53 #[.int .i64 n, .int .i64 m, .int .i64 d, .int .i64 p, .int .i64 a] ∧ Below w.heap.size w w')
      (first
        | exact ⟨E1.cell, E1, E3⟩
        | exact ⟨b0.cell, b0, hB0⟩
        | (go_split_ands; have p1 : Box _ w.heap.size 53 #[.int .i64 n, .int .i64 m, .int .i64 d, .int .i64 p, .int .i64 a] := (by assumption); have p3 : Below w.heap.size w _ := (by assumption); first | exact ⟨(Box.alloc_ p1 _).cell, Box.alloc_ p1 _, grow_alloc p3 _⟩ | exact ⟨(Box.drew_ (Box.alloc_ p1 _)).cell, Box.drew_ (Box.alloc_ p1 _), grow_drew (grow_alloc p3 _)⟩)
        | (go_keep; done))
      (first
        | (go_at_call 98; go_split_ands; have p1 : Box _ w.heap.size 53 #[.int .i64 n, .int .i64 m, .int .i64 d, .int .i64 p, .int .i64 a] := (by assumption); have p3 : Below w.heap.size w _ := (by assumption); refine (rAll_any _ 3 [n, m, d] _ hI HRO.out (by simp)).mono ?_; rintro e w2 ⟨rfl, rfl⟩; rw [HR.out])
        | (go_at_call 97; go_split_ands; have p1 : Box _ w.heap.size 53 #[.int .i64 n, .int .i64 m, .int .i64 d, .int .i64 p, .int .i64 a] := (by assumption); have p3 : Below w.heap.size w _ := (by assumption); refine (rRight_any q r p a _).mono ?_; rintro e w3 ⟨rfl, hb3⟩; rw [HE.out]; have E1 := p1.below hb3; have E3 := grow_step p3 hb3; clear p1 p3))
    have cE := E1.cell; have lE := E1.lt
    by_cases h0 : E = 0
    · by_cases hnc : n = c
      · have HQ : Hid (qcE q n m d p a c = E) := Lib.hid (by rw [HF.out, if_pos h0, if_pos hnc, h0])
        have t : (n != c) = false := by simp [hnc]
        have t2 : (E == 0) = true := by simp [h0]
        clear HF HE hnc h0 hI
        go_wp2_with fail
        go_ret
        exact ⟨by rw [HQ.out]; rfl, E3⟩
      · have HQ : Hid (qcE q n m d p a c = 7) := Lib.hid (by rw [HF.out, if_pos h0, if_neg hnc])
        have t : (n != c) = true := by simp [hnc]
        have t2 : (E == 0) = true := by simp [h0]
        clear HF HE hnc h0 hI
        go_wp2_with fail
        go_ret
        exact ⟨by rw [HQ.out]; rfl, E3⟩
    · have HQ : Hid (qcE q n m d p a c = E) := Lib.hid (by rw [HF.out, if_neg h0])
      have t2 : (E == 0) = false := by simp [h0]
      clear HF HE h0 hI
      go_wp2_with fail
      go_ret
      exact ⟨by rw [HQ.out]; rfl, E3⟩
  · have HF : Hid (qcE q n m d p a c = 1) := Lib.hid (by unfold qcE; rw [if_neg hok])
    have hs : qcOk n m d c = false := by simpa using hok
    clear hok
    unfold qcOk at hs
    cases hc : okM c
    · go_enter Tryd.func62, Tryd.ntmps62
      go_wp2_with (go_at_call 24; refine (rIs_any _ _).mono ?_; rintro e w' ⟨rfl, rfl⟩)
      go_ret
      exact ⟨by rw [HF.out]; rfl, (by repeat (first | (with_reducible exact grow_refl _) | (with_reducible assumption) | (with_reducible refine grow_alloc ?_ _) | (with_reducible refine grow_set ?_ (by first | exact Nat.le_refl _ | (simp; done) | (simp; omega) | omega) _) | (with_reducible refine grow_drewN ?_ _) | (with_reducible refine grow_drew ?_) | (with_reducible refine grow_step ?_ (by assumption)) | (with_reducible refine grow_base ?_ (by assumption))))⟩
    · cases hn : okM n
      · go_enter Tryd.func62, Tryd.ntmps62
        go_wp2_with (go_at_call 24; refine (rIs_any _ _).mono ?_; rintro e w' ⟨rfl, rfl⟩)
        go_ret
        exact ⟨by rw [HF.out]; rfl, (by repeat (first | (with_reducible exact grow_refl _) | (with_reducible assumption) | (with_reducible refine grow_alloc ?_ _) | (with_reducible refine grow_set ?_ (by first | exact Nat.le_refl _ | (simp; done) | (simp; omega) | omega) _) | (with_reducible refine grow_drewN ?_ _) | (with_reducible refine grow_drew ?_) | (with_reducible refine grow_step ?_ (by assumption)) | (with_reducible refine grow_base ?_ (by assumption))))⟩
      · cases hd : okM d
        · go_enter Tryd.func62, Tryd.ntmps62
          go_wp2_with (go_at_call 24; refine (rIs_any _ _).mono ?_; rintro e w' ⟨rfl, rfl⟩)
          go_ret
          exact ⟨by rw [HF.out]; rfl, (by repeat (first | (with_reducible exact grow_refl _) | (with_reducible assumption) | (with_reducible refine grow_alloc ?_ _) | (with_reducible refine grow_set ?_ (by first | exact Nat.le_refl _ | (simp; done) | (simp; omega) | omega) _) | (with_reducible refine grow_drewN ?_ _) | (with_reducible refine grow_drew ?_) | (with_reducible refine grow_step ?_ (by assumption)) | (with_reducible refine grow_base ?_ (by assumption))))⟩
        · have hm : okMask m = false := by rw [hc, hn, hd] at hs; simpa using hs
          have hm2 := okMask_no hm
          clear hm hs
          by_cases h1 : m < 0
          · go_enter Tryd.func62, Tryd.ntmps62
            go_wp2_with (go_at_call 24; refine (rIs_any _ _).mono ?_; rintro e w' ⟨rfl, rfl⟩)
            go_ret
            exact ⟨by rw [HF.out]; rfl, (by repeat (first | (with_reducible exact grow_refl _) | (with_reducible assumption) | (with_reducible refine grow_alloc ?_ _) | (with_reducible refine grow_set ?_ (by first | exact Nat.le_refl _ | (simp; done) | (simp; omega) | omega) _) | (with_reducible refine grow_drewN ?_ _) | (with_reducible refine grow_drew ?_) | (with_reducible refine grow_step ?_ (by assumption)) | (with_reducible refine grow_base ?_ (by assumption))))⟩
          · have h2 : 255 < m := by omega
            go_enter Tryd.func62, Tryd.ntmps62
            go_wp2_with (go_at_call 24; refine (rIs_any _ _).mono ?_; rintro e w' ⟨rfl, rfl⟩)
            go_ret
            exact ⟨by rw [HF.out]; rfl, (by repeat (first | (with_reducible exact grow_refl _) | (with_reducible assumption) | (with_reducible refine grow_alloc ?_ _) | (with_reducible refine grow_set ?_ (by first | exact Nat.le_refl _ | (simp; done) | (simp; omega) | omega) _) | (with_reducible refine grow_drewN ?_ _) | (with_reducible refine grow_drew ?_) | (with_reducible refine grow_step ?_ (by assumption)) | (with_reducible refine grow_base ?_ (by assumption))))⟩

end Go.Proofs.YtdedllfgeekogaaDoor
