/- The walks of the reference: whether a seal is right; the last key of certs. -/
import Derived.Test.YtnocigkfhdnhfaaDoorRows
import Derived.Test.YtnocigkfhdnhfaaDoorNum
import Derived.Test.YtnocigkfhdnhfaaDoorBase
import Derived.Test.YtnocigkfhdnhfaaDoorMeas
import Derived.Test.YtnocigkfhdnhfaaDoorKey
import Derived.Test.YtnocigkfhdnhfaaDoorCert
import Derived.Test.YtnocigkfhdnhfaaDoorRefA
import Derived.Test.YtnocigkfhdnhfaaDoorRefB
import Derived.Test.YtnocigkfhdnhfaaDoorRefK
import Derived.WalkKit
import Derived.Lib.Hide
import Derived.Deep.RegionHeld3
namespace Go.Proofs.YtnocigkfhdnhfaaDoor
open Go.RowKit

set_option maxHeartbeats 1000000 in
theorem rRight_any (q m p a : Int) (w : World) :
    Calls Tryd.prog 67 #[.int .i64 q, .int .i64 m, .agg #[.int .i64 p, .int .i64 a]] w fun e w' => e = .returned (.int .i64 (rightE q m p a)) ∧ Below w.heap.size w w' := by
  cases hq : okIn q
  · have HE : Hid (rightE q m p a = 1) := Lib.hid (by simp [rightE, okSeal, hq])
    go_enter Tryd.func67, Tryd.ntmps67
    go_wp2_with (first | (go_at_call 48; refine (rIn_any _ _).mono ?_; rintro e w' ⟨rfl, rfl⟩) | (go_at_call 62; refine (rIs_any _ _).mono ?_; rintro e w' ⟨rfl, rfl⟩))
    go_ret
    exact ⟨by rw [HE.out]; rfl, (by repeat (first | (with_reducible exact grow_refl _) | (with_reducible assumption) | (with_reducible refine grow_alloc ?_ _) | (with_reducible refine grow_set ?_ (by first | exact Nat.le_refl _ | (simp; done) | (simp; omega) | omega) _) | (with_reducible refine grow_drewN ?_ _) | (with_reducible refine grow_drew ?_) | (with_reducible refine grow_step ?_ (by assumption)) | (with_reducible refine grow_base ?_ (by assumption))))⟩
  · cases hp : okIn p
    · have HE : Hid (rightE q m p a = 1) := Lib.hid (by simp [rightE, okSeal, hp])
      go_enter Tryd.func67, Tryd.ntmps67
      go_wp2_with (first | (go_at_call 48; refine (rIn_any _ _).mono ?_; rintro e w' ⟨rfl, rfl⟩) | (go_at_call 62; refine (rIs_any _ _).mono ?_; rintro e w' ⟨rfl, rfl⟩))
      go_ret
      exact ⟨by rw [HE.out]; rfl, (by repeat (first | (with_reducible exact grow_refl _) | (with_reducible assumption) | (with_reducible refine grow_alloc ?_ _) | (with_reducible refine grow_set ?_ (by first | exact Nat.le_refl _ | (simp; done) | (simp; omega) | omega) _) | (with_reducible refine grow_drewN ?_ _) | (with_reducible refine grow_drew ?_) | (with_reducible refine grow_step ?_ (by assumption)) | (with_reducible refine grow_base ?_ (by assumption))))⟩
    · cases hm : okM m
      · have HE : Hid (rightE q m p a = 1) := Lib.hid (by simp [rightE, okSeal, hm])
        go_enter Tryd.func67, Tryd.ntmps67
        go_wp2_with (first | (go_at_call 48; refine (rIn_any _ _).mono ?_; rintro e w' ⟨rfl, rfl⟩) | (go_at_call 62; refine (rIs_any _ _).mono ?_; rintro e w' ⟨rfl, rfl⟩))
        go_ret
        exact ⟨by rw [HE.out]; rfl, (by repeat (first | (with_reducible exact grow_refl _) | (with_reducible assumption) | (with_reducible refine grow_alloc ?_ _) | (with_reducible refine grow_set ?_ (by first | exact Nat.le_refl _ | (simp; done) | (simp; omega) | omega) _) | (with_reducible refine grow_drewN ?_ _) | (with_reducible refine grow_drew ?_) | (with_reducible refine grow_step ?_ (by assumption)) | (with_reducible refine grow_base ?_ (by assumption))))⟩
      · by_cases ha : a < 0
        · have HE : Hid (rightE q m p a = 1) := Lib.hid (by
            have : okAns a = false := decide_eq_false (by omega)
            simp [rightE, okSeal, this])
          go_enter Tryd.func67, Tryd.ntmps67
          go_wp2_with (first | (go_at_call 48; refine (rIn_any _ _).mono ?_; rintro e w' ⟨rfl, rfl⟩) | (go_at_call 62; refine (rIs_any _ _).mono ?_; rintro e w' ⟨rfl, rfl⟩))
          go_ret
          exact ⟨by rw [HE.out]; rfl, (by repeat (first | (with_reducible exact grow_refl _) | (with_reducible assumption) | (with_reducible refine grow_alloc ?_ _) | (with_reducible refine grow_set ?_ (by first | exact Nat.le_refl _ | (simp; done) | (simp; omega) | omega) _) | (with_reducible refine grow_drewN ?_ _) | (with_reducible refine grow_drew ?_) | (with_reducible refine grow_step ?_ (by assumption)) | (with_reducible refine grow_base ?_ (by assumption))))⟩
        · by_cases ha2 : 256 < a
          · have HE : Hid (rightE q m p a = 1) := Lib.hid (by
              have : okAns a = false := decide_eq_false (by omega)
              simp [rightE, okSeal, this])
            go_enter Tryd.func67, Tryd.ntmps67
            go_wp2_with (first | (go_at_call 48; refine (rIn_any _ _).mono ?_; rintro e w' ⟨rfl, rfl⟩) | (go_at_call 62; refine (rIs_any _ _).mono ?_; rintro e w' ⟨rfl, rfl⟩))
            go_ret
            exact ⟨by rw [HE.out]; rfl, (by repeat (first | (with_reducible exact grow_refl _) | (with_reducible assumption) | (with_reducible refine grow_alloc ?_ _) | (with_reducible refine grow_set ?_ (by first | exact Nat.le_refl _ | (simp; done) | (simp; omega) | omega) _) | (with_reducible refine grow_drewN ?_ _) | (with_reducible refine grow_drew ?_) | (with_reducible refine grow_step ?_ (by assumption)) | (with_reducible refine grow_base ?_ (by assumption))))⟩
          · have hok : okSeal q m p a = true := by
              have : okAns a = true := decide_eq_true (by omega)
              simp [okSeal, hq, hp, hm, this]
            obtain ⟨q1, q2⟩ := okIn_yes hq
            obtain ⟨c1, c2⟩ := chM_bd p q m
            obtain ⟨m1, m2⟩ := pw_prod_bd (p := p) (q := q) (c := chM p q m) hp
            have kp := okM_of_in hp
            have kq := okM_of_in hq
            have e1 : (IntKind.i64.wrap (p * pwI q (chM p q m))).tmod 1543 = p * pwI q (chM p q m) % 1543 := by
              rw [IntWalk.i64_in _ (by omega), Int.tmod_eq_emod_of_nonneg m1]
            obtain ⟨z, hz⟩ : ∃ z, (IntKind.i64.wrap (p * pwI q (chM p q m))).tmod 1543 = z := ⟨_, rfl⟩
            have heq : rightE q m p a = if pwI 64 a = z then 0 else 8 := by
              unfold rightE eqSeal
              rw [hok, ← hz, e1, if_pos rfl]
              by_cases h : pwI 64 a = p * pwI q (chM p q m) % 1543
              · rw [if_pos h, if_pos (by simpa using h)]
              · rw [if_neg h, if_neg (by simpa using h)]
            have HE := Lib.hid heq
            have HZ := Lib.hid hz
            clear heq hz e1 hok
            go_enter Tryd.func67, Tryd.ntmps67
            go_wp2_with (first | (go_at_call 48; refine (rIn_any _ _).mono ?_; rintro e w' ⟨rfl, rfl⟩) | (go_at_call 62; refine (rIs_any _ _).mono ?_; rintro e w' ⟨rfl, rfl⟩) | (go_at_call 64; refine (rChallenge_any _ _ _ _ kp kq hm).mono ?_; rintro e w1 ⟨rfl, hb1⟩; have BX := (Box.new _ _ _).below hb1; have cX := BX.cell; have lX := BX.lt))
            have hB1 : Below w.heap.size w w1 := (by repeat (first | (with_reducible exact grow_refl _) | (with_reducible assumption) | (with_reducible refine grow_alloc ?_ _) | (with_reducible refine grow_set ?_ (by first | exact Nat.le_refl _ | (simp; done) | (simp; omega) | omega) _) | (with_reducible refine grow_drewN ?_ _) | (with_reducible refine grow_drew ?_) | (with_reducible refine grow_step ?_ (by assumption)) | (with_reducible refine grow_base ?_ (by assumption))))
            go_region_held3 (fun w' => w'.cell? ⟨w.heap.size, 0, none⟩ = some (.int .i64 p) ∧ w'.cell? ⟨w.heap.size, 1, none⟩ = some (.int .i64 a) ∧ Below w.heap.size w w')
              (first
                | (go_keep; done)
                | exact ⟨(cX 0).trans rfl, (cX 1).trans rfl, grow_drew hB1⟩
                | (go_split_ands; exact ⟨by assumption, by assumption, by assumption⟩))
              (first
                | (go_at_call_of 63 (Value.int IntKind.i64 64); refine (rPower_any _ _ _ (by omega) (by omega) (by omega) (by omega)).mono ?_; rintro e w1 ⟨rfl, rfl⟩)
                | (go_at_call 63; refine (rPower_any _ _ _ (by omega) (by omega) (by omega) (by omega)).mono ?_; rintro e w1 ⟨rfl, rfl⟩))
            rw [HZ.out]
            have hB2 := grow_drew hB1
            by_cases h : pwI 64 a = z
            · have t : (pwI 64 a != z) = false := by simp [h]
              have HF : Hid (rightE q m p a = 0) := Lib.hid (by rw [HE.out, if_pos h])
              clear h
              go_wp2_with fail
              go_ret
              exact ⟨by rw [HF.out]; rfl, by assumption⟩
            · have t : (pwI 64 a != z) = true := by simp [h]
              have HF : Hid (rightE q m p a = 8) := Lib.hid (by rw [HE.out, if_neg h])
              clear h
              go_wp2_with fail
              go_ret
              exact ⟨by rw [HF.out]; rfl, by assumption⟩


end Go.Proofs.YtnocigkfhdnhfaaDoor
