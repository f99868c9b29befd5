/- The walks of package key. -/
import Derived.Test.YtegiffdlfpdbkaaGreatDoorRows
import Derived.Test.YtegiffdlfpdbkaaGreatDoorNum
import Derived.Test.YtegiffdlfpdbkaaGreatDoorBase
import Derived.Test.YtegiffdlfpdbkaaGreatDoorMeas
import Derived.Deep.RegionHeld3
import Derived.WalkKit
import Derived.WalkSpells
import Derived.WalkLawsBesides
import Derived.Lib.Hide
import Derived.IntWalk
namespace Go.Proofs.YtegiffdlfpdbkaaGreatDoor
open Go.RowKit

set_option maxHeartbeats 400000 in
theorem power_nat (a n : Nat) (w : World) (ha : a < 1543) (hn : n ≤ 100000) :
    Calls Tryz.prog 86 #[.int .i64 a, .int .i64 n] w fun e w' => e = .returned (.int .i64 (pw a n : Nat)) ∧ w = w' := by
  go_enter Tryz.func86, Tryz.ntmps86
  go_wp2
  go_loop [0, 1, 5] (fun x y z => ∃ a' n' o : Nat, PowInv a n o a' n' ∧ x = .int .i64 a' ∧ y = .int .i64 n' ∧ z = .int .i64 o) (fun _ y _ => (intOf y).toNat)
  case atStart => exact ⟨a, n, 1, powInv_start ha, rfl, rfl, rfl⟩
  case round =>
    obtain ⟨a', n', o, hinv, rfl, rfl, rfl⟩ := hrel
    have HI : Hid (PowInv a n o a' n') := Lib.hid hinv
    obtain ⟨b1, b2, b3, _⟩ := hinv
    have b4 : n' ≤ 100000 := by omega
    obtain ⟨m1, m2⟩ := mul_bd b2 b2
    obtain ⟨m3, m4⟩ := mul_bd b1 b2
    clear ha hn
    by_cases h0 : 0 < n'
    · by_cases h1 : n' % 2 = 1
      · have t := and_one_yes n' (by omega) h1
        have H1 := Lib.hid h1; clear h1
        go_wp2
        go_round
        case rel => exact ⟨a' * a' % 1543, n' / 2, o * a' % 1543, powInv_odd HI.out H1.out, i64_eq (by simp), i64_eq (by simp), i64_eq (by simp)⟩
        case measure => simp [intOf]; omega
      · have h2 : n' % 2 = 0 := by omega
        have t := and_one_no n' (by omega) h2
        have H1 := Lib.hid h2; clear h2 h1
        go_wp2
        go_round
        case rel => exact ⟨a' * a' % 1543, n' / 2, o, powInv_even HI.out H1.out, i64_eq (by simp), i64_eq (by simp), rfl⟩
        case measure => simp [intOf]; omega
    · obtain rfl : n' = 0 := by omega
      go_wp2
      go_ret
      exact ⟨by rw [powInv_end HI.out]; rfl, rfl⟩

theorem power_any (a n : Int) (w : World) (h0 : 0 ≤ a) (ha : a ≤ 1542) (h1 : 0 ≤ n) (hn : n ≤ 100000) :
    Calls Tryz.prog 86 #[.int .i64 a, .int .i64 n] w fun e w' => e = .returned (.int .i64 (pwI a n)) ∧ w = w' := by
  obtain ⟨a, rfl⟩ := Int.eq_ofNat_of_zero_le h0
  obtain ⟨n, rfl⟩ := Int.eq_ofNat_of_zero_le h1
  exact power_nat a n w (by omega) (by omega)

set_option maxHeartbeats 400000 in
theorem of_any (n : Int) (w : World) (h1 : 0 ≤ n) (hn : n ≤ 100000) :
    Calls Tryz.prog 82 #[.int .i64 n] w fun e w' => e = .returned (.int .i64 (pwI 64 n)) ∧ w = w' := by
  go_enter Tryz.func82, Tryz.ntmps82
  go_wp2_with (go_at_call 86; refine (power_any _ _ _ (by omega) (by omega) (by omega) (by omega)).mono ?_; rintro e w' ⟨rfl, rfl⟩)
  go_ret
  exact ⟨rfl, rfl⟩

set_option maxHeartbeats 400000 in
theorem secret_any (x : Int) (w : World) :
    Calls Tryz.prog 81 #[.int .i64 x] w fun e w' => e = .returned (.bool (okSecret x)) ∧ w = w' := by
  by_cases h1 : 1 ≤ x
  · by_cases h2 : x < 257
    · have h : okSecret x = true := decide_eq_true (by omega)
      rw [h]
      go_enter Tryz.func81, Tryz.ntmps81
      go_wp2
      go_ret
      exact ⟨rfl, rfl⟩
    · have h : okSecret x = false := decide_eq_false (by omega)
      rw [h]
      go_enter Tryz.func81, Tryz.ntmps81
      go_wp2
      go_ret
      exact ⟨rfl, rfl⟩
  · have h : okSecret x = false := decide_eq_false (by omega)
    rw [h]
    go_enter Tryz.func81, Tryz.ntmps81
    go_wp2
    go_ret
    exact ⟨rfl, rfl⟩

set_option maxHeartbeats 400000 in
theorem public_any (x : Int) (w : World) :
    Calls Tryz.prog 62 #[.int .i64 x] w fun e w' => e = .returned (.tuple #[.int .i64 (pubM x), errV (pubE x)]) ∧ w = w' := by
  by_cases h : okSecret x = true
  · have hb := okSecret_yes h
    have HE : Hid (pubE x = 0) := Lib.hid (by simp [pubE, h])
    have HM : Hid (pubM x = pwI 64 x) := Lib.hid (by simp [pubM, h])
    go_enter Tryz.func62, Tryz.ntmps62
    go_wp2_with (first | (go_at_call 81; refine (secret_any _ _).mono ?_; rintro e w' ⟨rfl, rfl⟩) | (go_at_call 82; refine (of_any _ _ (by omega) (by omega)).mono ?_; rintro e w' ⟨rfl, rfl⟩))
    go_ret2
    exact ⟨by rw [HE.out, HM.out]; rfl, rfl⟩
  · simp only [Bool.not_eq_true] at h
    have HE : Hid (pubE x = 1) := Lib.hid (by simp [pubE, h])
    have HM : Hid (pubM x = 0) := Lib.hid (by simp [pubM, h])
    go_enter Tryz.func62, Tryz.ntmps62
    go_wp2_with (first | (go_at_call 81; refine (secret_any _ _).mono ?_; rintro e w' ⟨rfl, rfl⟩))
    go_ret2
    exact ⟨by rw [HE.out, HM.out]; rfl, rfl⟩

set_option maxHeartbeats 400000 in
theorem in_any (n : Int) (w : World) :
    Calls Tryz.prog 84 #[.int .i64 n] w fun e w' => e = .returned (.bool (okIn n)) ∧ w = w' := by
  by_cases h1 : 1 ≤ n
  · by_cases h2 : n < 1543
    · have h : okIn n = true := decide_eq_true (by omega)
      rw [h]
      go_enter Tryz.func84, Tryz.ntmps84
      go_wp2
      go_ret
      exact ⟨rfl, rfl⟩
    · have h : okIn n = false := decide_eq_false (by omega)
      rw [h]
      go_enter Tryz.func84, Tryz.ntmps84
      go_wp2
      go_ret
      exact ⟨rfl, rfl⟩
  · have h : okIn n = false := decide_eq_false (by omega)
    rw [h]
    go_enter Tryz.func84, Tryz.ntmps84
    go_wp2
    go_ret
    exact ⟨rfl, rfl⟩

set_option maxHeartbeats 400000 in
theorem challenge_any (p q m : Int) (w : World) (hp : okM p = true) (hq : okM q = true) (hm : okM m = true) :
    Calls Tryz.prog 87 #[.int .i64 p, .int .i64 q, .int .i64 m] w fun e w' => e = .returned (.int .i64 (chM p q m)) ∧ Below w.heap.size w w' := by
  have hx : [p, q, m].all okM = true := by simp [hp, hq, hm]
  obtain ⟨r1, r2⟩ := okM_yes (rowM_ok [p, q, m])
  have HX := Lib.hid hx
  clear hx hp hq hm
  go_enter Tryz.func87, Tryz.ntmps87
  go_wp2_with fail
  refine (row_any _ 3 [p, q, m] _ (IntsAt.new_ _ _ _ _) HX.out (by simp)).mono ?_
  rintro e w' ⟨rfl, rfl⟩
  go_wp2_with fail
  go_ret
  exact ⟨rfl, (by repeat (first | (with_reducible exact grow_refl _) | (with_reducible assumption) | (with_reducible refine grow_alloc ?_ _) | (with_reducible refine grow_set ?_ (by first | exact Nat.le_refl _ | (simp; done) | (simp; omega) | omega) _) | (with_reducible refine grow_drewN ?_ _) | (with_reducible refine grow_drew ?_) | (with_reducible refine grow_step ?_ (by assumption)) | (with_reducible refine grow_base ?_ (by assumption))))⟩

set_option maxHeartbeats 400000 in
theorem made_any (x k m : Int) (w : World) (hx : okSecret x = true) (hk : okSecret k = true) (hm : okM m = true) :
    Calls Tryz.prog 103 #[.int .i64 x, .int .i64 k, .int .i64 m] w fun e w' => e = .returned (.agg #[.int .i64 (pwI 64 k), .int .i64 (sealA x k m)]) ∧ Below w.heap.size w w' := by
  obtain ⟨x1, x2⟩ := okSecret_yes hx
  obtain ⟨k1, k2⟩ := okSecret_yes hk
  obtain ⟨c1, c2⟩ := chM_bd (pwI 64 k) (pwI 64 x) m
  obtain ⟨m1, m2⟩ := mulI_bd c1 (by omega) (by omega : 0 ≤ x) (by omega)
  have hk' := okM_pwI 64 k
  have hx' := okM_pwI 64 x
  clear hx hk
  go_enter Tryz.func103, Tryz.ntmps103
  go_wp2_with fail
  refine (of_any _ _ (by omega) (by omega)).mono ?_
  rintro e w' ⟨rfl, rfl⟩
  go_wp2_with fail
  refine (of_any _ _ (by omega) (by omega)).mono ?_
  rintro e w' ⟨rfl, rfl⟩
  go_wp2_with fail
  refine (challenge_any _ _ _ _ hk' hx' hm).mono ?_
  rintro e w1 ⟨rfl, hb⟩
  obtain ⟨hc, hf⟩ := bcell hb
  have hz : w.heap.size + 1 ≤ w1.heap.size := by have := hb.size; simpa using this
  go_wp2_with fail
  exact bodyPost_ret (v := .agg #[.int .i64 (pwI 64 k), .int .i64 (sealA x k m)]) (by simp [results, Tryz.results103, go_sem, hc, sealA]) rfl ⟨rfl, (by repeat (first | (with_reducible exact grow_refl _) | (with_reducible assumption) | (with_reducible refine grow_alloc ?_ _) | (with_reducible refine grow_set ?_ (by first | exact Nat.le_refl _ | (simp; done) | (simp; omega) | omega) _) | (with_reducible refine grow_drewN ?_ _) | (with_reducible refine grow_drew ?_) | (with_reducible refine grow_step ?_ (by assumption)) | (with_reducible refine grow_base ?_ (by assumption))))⟩

set_option maxHeartbeats 400000 in
theorem sign_any (x k m : Int) (w : World) :
    Calls Tryz.prog 83 #[.int .i64 x, .int .i64 k, .int .i64 m] w fun e w' => e = .returned (.tuple #[.agg #[.int .i64 (sgP x k m), .int .i64 (sgA x k m)], errV (sgE x k m)]) ∧ Below w.heap.size w w' := by
  have arm := fun (w : World) => secret_any x w
  cases hx : okSecret x
  · have h : okSign x k m = false := by simp [okSign, hx]
    have HP : Hid (sgP x k m = 0 ∧ sgA x k m = 0 ∧ sgE x k m = 1) := Lib.hid (by simp [sgP, sgA, sgE, h])
    clear h
    go_enter Tryz.func83, Tryz.ntmps83
    go_wp2_with (first | (go_at_call 81; refine (secret_any _ _).mono ?_; rintro e w' ⟨rfl, rfl⟩) | (go_at_call 85; refine (mIs_any _ _).mono ?_; rintro e w' ⟨rfl, rfl⟩))
    rw [HP.out.1, HP.out.2.1, HP.out.2.2]
    exact bodyPost_ret (v := .tuple #[.agg #[.int .i64 0, .int .i64 0], errV 1]) (by simp [results, Tryz.results83, go_sem, errV]) rfl ⟨rfl, (by repeat (first | (with_reducible exact grow_refl _) | (with_reducible assumption) | (with_reducible refine grow_alloc ?_ _) | (with_reducible refine grow_set ?_ (by first | exact Nat.le_refl _ | (simp; done) | (simp; omega) | omega) _) | (with_reducible refine grow_drewN ?_ _) | (with_reducible refine grow_drew ?_) | (with_reducible refine grow_step ?_ (by assumption)) | (with_reducible refine grow_base ?_ (by assumption))))⟩
  · cases hk : okSecret k
    · have h : okSign x k m = false := by simp [okSign, hx, hk]
      have HP : Hid (sgP x k m = 0 ∧ sgA x k m = 0 ∧ sgE x k m = 1) := Lib.hid (by simp [sgP, sgA, sgE, h])
      clear h
      go_enter Tryz.func83, Tryz.ntmps83
      go_wp2_with (first | (go_at_call 81; refine (secret_any _ _).mono ?_; rintro e w' ⟨rfl, rfl⟩) | (go_at_call 85; refine (mIs_any _ _).mono ?_; rintro e w' ⟨rfl, rfl⟩))
      rw [HP.out.1, HP.out.2.1, HP.out.2.2]
      exact bodyPost_ret (v := .tuple #[.agg #[.int .i64 0, .int .i64 0], errV 1]) (by simp [results, Tryz.results83, go_sem, errV]) rfl ⟨rfl, (by repeat (first | (with_reducible exact grow_refl _) | (with_reducible assumption) | (with_reducible refine grow_alloc ?_ _) | (with_reducible refine grow_set ?_ (by first | exact Nat.le_refl _ | (simp; done) | (simp; omega) | omega) _) | (with_reducible refine grow_drewN ?_ _) | (with_reducible refine grow_drew ?_) | (with_reducible refine grow_step ?_ (by assumption)) | (with_reducible refine grow_base ?_ (by assumption))))⟩
    · cases hm : okM m
      · have h : okSign x k m = false := by simp [okSign, hx, hk, hm]
        have HP : Hid (sgP x k m = 0 ∧ sgA x k m = 0 ∧ sgE x k m = 1) := Lib.hid (by simp [sgP, sgA, sgE, h])
        clear h
        go_enter Tryz.func83, Tryz.ntmps83
        go_wp2_with (first | (go_at_call 81; refine (secret_any _ _).mono ?_; rintro e w' ⟨rfl, rfl⟩) | (go_at_call 85; refine (mIs_any _ _).mono ?_; rintro e w' ⟨rfl, rfl⟩))
        rw [HP.out.1, HP.out.2.1, HP.out.2.2]
        exact bodyPost_ret (v := .tuple #[.agg #[.int .i64 0, .int .i64 0], errV 1]) (by simp [results, Tryz.results83, go_sem, errV]) rfl ⟨rfl, (by repeat (first | (with_reducible exact grow_refl _) | (with_reducible assumption) | (with_reducible refine grow_alloc ?_ _) | (with_reducible refine grow_set ?_ (by first | exact Nat.le_refl _ | (simp; done) | (simp; omega) | omega) _) | (with_reducible refine grow_drewN ?_ _) | (with_reducible refine grow_drew ?_) | (with_reducible refine grow_step ?_ (by assumption)) | (with_reducible refine grow_base ?_ (by assumption))))⟩
      · have h : okSign x k m = true := by simp [okSign, hx, hk, hm]
        have HP : Hid (sgP x k m = pwI 64 k ∧ sgA x k m = sealA x k m ∧ sgE x k m = 0) := Lib.hid (by simp [sgP, sgA, sgE, h])
        clear h
        go_enter Tryz.func83, Tryz.ntmps83
        go_wp2_with (first | (go_at_call 81; refine (secret_any _ _).mono ?_; rintro e w' ⟨rfl, rfl⟩) | (go_at_call 85; refine (mIs_any _ _).mono ?_; rintro e w' ⟨rfl, rfl⟩) | (go_at_call 103; refine (made_any _ _ _ _ hx hk hm).mono ?_; rintro e w1 ⟨rfl, hb⟩; obtain ⟨hc, hf⟩ := bcell hb; have hz : w.heap.size + 1 ≤ w1.heap.size := (by have := hb.size; simpa using this)))
        rw [HP.out.1, HP.out.2.1, HP.out.2.2]
        exact bodyPost_ret (v := .tuple #[.agg #[.int .i64 (pwI 64 k), .int .i64 (sealA x k m)], errV 0]) (by simp [results, Tryz.results83, go_sem, hc, errV]) rfl ⟨rfl, (by repeat (first | (with_reducible exact grow_refl _) | (with_reducible assumption) | (with_reducible refine grow_alloc ?_ _) | (with_reducible refine grow_set ?_ (by first | exact Nat.le_refl _ | (simp; done) | (simp; omega) | omega) _) | (with_reducible refine grow_drewN ?_ _) | (with_reducible refine grow_drew ?_) | (with_reducible refine grow_step ?_ (by assumption)) | (with_reducible refine grow_base ?_ (by assumption))))⟩

theorem pw_prod_bd {p q c : Int} (hp : okIn p = true) : (0 : Int) ≤ p * pwI q c ∧ p * pwI q c ≤ 2400000 := by
  have := okIn_yes hp
  have := pwI_bd q c
  exact mulI_bd (by omega) (by omega) (by omega) (by omega)

set_option maxHeartbeats 400000 in
theorem check_any (q m p a : Int) (w : World) :
    Calls Tryz.prog 65 #[.int .i64 q, .int .i64 m, .agg #[.int .i64 p, .int .i64 a]] w fun e w' => e = .returned (.tuple #[.bool (chkB q m p a), errV (chkE q m p a)]) ∧ Below w.heap.size w w' := by
  cases hq : okIn q
  · have h : okSeal q m p a = false := by simp [okSeal, hq]
    have HP : Hid (chkB q m p a = false ∧ chkE q m p a = 1) := Lib.hid (by simp [chkB, chkE, h])
    clear h
    go_enter Tryz.func65, Tryz.ntmps65
    go_wp2_with (first | (go_at_call 84; refine (in_any _ _).mono ?_; rintro e w' ⟨rfl, rfl⟩) | (go_at_call 85; refine (mIs_any _ _).mono ?_; rintro e w' ⟨rfl, rfl⟩))
    go_ret2
    exact ⟨by rw [HP.out.1, HP.out.2]; rfl, (by repeat (first | (with_reducible exact grow_refl _) | (with_reducible assumption) | (with_reducible refine grow_alloc ?_ _) | (with_reducible refine grow_set ?_ (by first | exact Nat.le_refl _ | (simp; done) | (simp; omega) | omega) _) | (with_reducible refine grow_drewN ?_ _) | (with_reducible refine grow_drew ?_) | (with_reducible refine grow_step ?_ (by assumption)) | (with_reducible refine grow_base ?_ (by assumption))))⟩
  · cases hp : okIn p
    · have h : okSeal q m p a = false := by simp [okSeal, hp]
      have HP : Hid (chkB q m p a = false ∧ chkE q m p a = 1) := Lib.hid (by simp [chkB, chkE, h])
      clear h
      go_enter Tryz.func65, Tryz.ntmps65
      go_wp2_with (first | (go_at_call 84; refine (in_any _ _).mono ?_; rintro e w' ⟨rfl, rfl⟩) | (go_at_call 85; refine (mIs_any _ _).mono ?_; rintro e w' ⟨rfl, rfl⟩))
      go_ret2
      exact ⟨by rw [HP.out.1, HP.out.2]; rfl, (by repeat (first | (with_reducible exact grow_refl _) | (with_reducible assumption) | (with_reducible refine grow_alloc ?_ _) | (with_reducible refine grow_set ?_ (by first | exact Nat.le_refl _ | (simp; done) | (simp; omega) | omega) _) | (with_reducible refine grow_drewN ?_ _) | (with_reducible refine grow_drew ?_) | (with_reducible refine grow_step ?_ (by assumption)) | (with_reducible refine grow_base ?_ (by assumption))))⟩
    · cases hm : okM m
      · have h : okSeal q m p a = false := by simp [okSeal, hm]
        have HP : Hid (chkB q m p a = false ∧ chkE q m p a = 1) := Lib.hid (by simp [chkB, chkE, h])
        clear h
        go_enter Tryz.func65, Tryz.ntmps65
        go_wp2_with (first | (go_at_call 84; refine (in_any _ _).mono ?_; rintro e w' ⟨rfl, rfl⟩) | (go_at_call 85; refine (mIs_any _ _).mono ?_; rintro e w' ⟨rfl, rfl⟩))
        go_ret2
        exact ⟨by rw [HP.out.1, HP.out.2]; rfl, (by repeat (first | (with_reducible exact grow_refl _) | (with_reducible assumption) | (with_reducible refine grow_alloc ?_ _) | (with_reducible refine grow_set ?_ (by first | exact Nat.le_refl _ | (simp; done) | (simp; omega) | omega) _) | (with_reducible refine grow_drewN ?_ _) | (with_reducible refine grow_drew ?_) | (with_reducible refine grow_step ?_ (by assumption)) | (with_reducible refine grow_base ?_ (by assumption))))⟩
      · by_cases ha : a < 0
        · have h : okSeal q m p a = false := by
            have : okAns a = false := decide_eq_false (by omega)
            simp [okSeal, this]
          have HP : Hid (chkB q m p a = false ∧ chkE q m p a = 1) := Lib.hid (by simp [chkB, chkE, h])
          clear h
          go_enter Tryz.func65, Tryz.ntmps65
          go_wp2_with (first | (go_at_call 84; refine (in_any _ _).mono ?_; rintro e w' ⟨rfl, rfl⟩) | (go_at_call 85; refine (mIs_any _ _).mono ?_; rintro e w' ⟨rfl, rfl⟩))
          go_ret2
          exact ⟨by rw [HP.out.1, HP.out.2]; rfl, (by repeat (first | (with_reducible exact grow_refl _) | (with_reducible assumption) | (with_reducible refine grow_alloc ?_ _) | (with_reducible refine grow_set ?_ (by first | exact Nat.le_refl _ | (simp; done) | (simp; omega) | omega) _) | (with_reducible refine grow_drewN ?_ _) | (with_reducible refine grow_drew ?_) | (with_reducible refine grow_step ?_ (by assumption)) | (with_reducible refine grow_base ?_ (by assumption))))⟩
        · by_cases ha2 : 257 ≤ a
          · have h : okSeal q m p a = false := by
              have : okAns a = false := decide_eq_false (by omega)
              simp [okSeal, this]
            have HP : Hid (chkB q m p a = false ∧ chkE q m p a = 1) := Lib.hid (by simp [chkB, chkE, h])
            clear h
            go_enter Tryz.func65, Tryz.ntmps65
            go_wp2_with (first | (go_at_call 84; refine (in_any _ _).mono ?_; rintro e w' ⟨rfl, rfl⟩) | (go_at_call 85; refine (mIs_any _ _).mono ?_; rintro e w' ⟨rfl, rfl⟩))
            go_ret2
            exact ⟨by rw [HP.out.1, HP.out.2]; rfl, (by repeat (first | (with_reducible exact grow_refl _) | (with_reducible assumption) | (with_reducible refine grow_alloc ?_ _) | (with_reducible refine grow_set ?_ (by first | exact Nat.le_refl _ | (simp; done) | (simp; omega) | omega) _) | (with_reducible refine grow_drewN ?_ _) | (with_reducible refine grow_drew ?_) | (with_reducible refine grow_step ?_ (by assumption)) | (with_reducible refine grow_base ?_ (by assumption))))⟩
          · have h : okSeal q m p a = true := by
              have : okAns a = true := decide_eq_true (by omega)
              simp [okSeal, hq, hp, hm, this]
            have HP : Hid (chkB q m p a = eqSeal q m p a ∧ chkE q m p a = 0) := Lib.hid (by simp [chkB, chkE, h])
            clear h
            obtain ⟨q1, q2⟩ := okIn_yes hq
            obtain ⟨c1, c2⟩ := chM_bd p q m
            obtain ⟨m1, m2⟩ := pw_prod_bd (p := p) (q := q) (c := chM p q m) hp
            have kp := okM_of_in hp
            have kq := okM_of_in hq
            have hB0 := grow_drew (grow_alloc (grow_refl w) (.cells #[.int .i64 p, .int .i64 a] 68))
            go_enter Tryz.func65, Tryz.ntmps65
            go_wp2_with (first | (go_at_call 84; refine (in_any _ _).mono ?_; rintro e w' ⟨rfl, rfl⟩) | (go_at_call 85; refine (mIs_any _ _).mono ?_; rintro e w' ⟨rfl, rfl⟩))
            go_region_held3 (fun w' => w'.cell? ⟨w.heap.size, 0, none⟩ = some (.int .i64 p) ∧ w'.cell? ⟨w.heap.size, 1, none⟩ = some (.int .i64 a) ∧ Below w.heap.size w w' ∧ w.heap.size < w'.heap.size)
              (first
                | go_keep
                | (go_split_ands; exact ⟨(hb.cell (p := ⟨w.heap.size, 0, none⟩) (by assumption)).trans (by assumption), (hb.cell (p := ⟨w.heap.size, 1, none⟩) (by assumption)).trans (by assumption), grow_step (by assumption) hb, Nat.lt_of_lt_of_le (by assumption) hb.size⟩))
              (first
                | (go_at_call 82; refine (of_any _ _ (by omega) (by omega)).mono ?_; rintro e w1 ⟨rfl, rfl⟩)
                | (go_at_call 86; refine (power_any _ _ _ (by omega) (by omega) (by omega) (by omega)).mono ?_; rintro e w1 ⟨rfl, rfl⟩)
                | (go_at_call 87; refine (challenge_any _ _ _ _ kp kq hm).mono ?_; rintro e w1 ⟨rfl, hb⟩))
            go_wp2
            go_ret2
            refine ⟨?_, grow_step hB0 hb⟩
            rw [HP.out.1, HP.out.2]
            show Ending.returned (.tuple #[.bool (pwI 64 a == (IntKind.i64.wrap (p * pwI q (chM p q m))).tmod 1543), .nilIface]) = _
            rw [IntWalk.i64_in _ (by omega), Int.tmod_eq_emod_of_nonneg m1]
            rfl

theorem rightE_ways (q m p a : Int) :
    (chkE q m p a = 1 ∧ rightE q m p a = 1) ∨ (chkE q m p a = 0 ∧ chkB q m p a = true ∧ rightE q m p a = 0) ∨ (chkE q m p a = 0 ∧ chkB q m p a = false ∧ rightE q m p a = 8) := by
  unfold chkE chkB rightE
  cases okSeal q m p a
  · exact Or.inl ⟨rfl, rfl⟩
  · cases eqSeal q m p a
    · exact Or.inr (Or.inr ⟨rfl, rfl, rfl⟩)
    · exact Or.inr (Or.inl ⟨rfl, rfl, rfl⟩)


end Go.Proofs.YtegiffdlfpdbkaaGreatDoor
