/- The walks of the reference: keys, seals, certs. The walks of the reference: whether a seal is right; the last key of certs. -/
import Derived.Test.YtegiffdlfpdbkaaGreatDoorRows
import Derived.Test.YtegiffdlfpdbkaaGreatDoorNum
import Derived.Test.YtegiffdlfpdbkaaGreatDoorBase
import Derived.Test.YtegiffdlfpdbkaaGreatDoorMeas
import Derived.Test.YtegiffdlfpdbkaaGreatDoorKey
import Derived.Test.YtegiffdlfpdbkaaGreatDoorCert
import Derived.Test.YtegiffdlfpdbkaaGreatDoorRefA
import Derived.Test.YtegiffdlfpdbkaaGreatDoorRefB
import Derived.WalkKit
import Derived.Lib.Hide
import Derived.Deep.RegionHeld3
namespace Go.Proofs.YtegiffdlfpdbkaaGreatDoor
open Go.RowKit

set_option maxHeartbeats 400000 in
theorem rSecret_any (x : Int) (w : World) :
    Calls Tryz.prog 21 #[.int .i64 x] w fun e w' => e = .returned (.bool (okSecret x)) ∧ w = w' := by
  by_cases h1 : 1 ≤ x
  · by_cases h2 : x ≤ 256
    · have h : okSecret x = true := decide_eq_true (by omega)
      rw [h]
      go_enter Tryz.func21, Tryz.ntmps21
      go_wp2
      go_ret
      exact ⟨rfl, rfl⟩
    · have h : okSecret x = false := decide_eq_false (by omega)
      rw [h]
      go_enter Tryz.func21, Tryz.ntmps21
      go_wp2
      go_ret
      exact ⟨rfl, rfl⟩
  · have h : okSecret x = false := decide_eq_false (by omega)
    rw [h]
    go_enter Tryz.func21, Tryz.ntmps21
    go_wp2
    go_ret
    exact ⟨rfl, rfl⟩

set_option maxHeartbeats 400000 in
theorem rIn_any (n : Int) (w : World) :
    Calls Tryz.prog 42 #[.int .i64 n] w fun e w' => e = .returned (.bool (okIn n)) ∧ w = w' := by
  by_cases h1 : 1 ≤ n
  · by_cases h2 : n ≤ 1542
    · have h : okIn n = true := decide_eq_true (by omega)
      rw [h]
      go_enter Tryz.func42, Tryz.ntmps42
      go_wp2
      go_ret
      exact ⟨rfl, rfl⟩
    · have h : okIn n = false := decide_eq_false (by omega)
      rw [h]
      go_enter Tryz.func42, Tryz.ntmps42
      go_wp2
      go_ret
      exact ⟨rfl, rfl⟩
  · have h : okIn n = false := decide_eq_false (by omega)
    rw [h]
    go_enter Tryz.func42, Tryz.ntmps42
    go_wp2
    go_ret
    exact ⟨rfl, rfl⟩

set_option maxHeartbeats 1000000 in
theorem rSigned_any (x k m : Int) (w : World) :
    Calls Tryz.prog 27 #[.int .i64 x, .int .i64 k, .int .i64 m] w fun e w' => e = .returned (.int .i64 (sgE x k m)) ∧ w = w' := by
  cases hx : okSecret x
  · have HE : Hid (sgE x k m = 1) := Lib.hid (by simp [sgE, okSign, hx])
    go_enter Tryz.func27, Tryz.ntmps27
    go_wp2_with (first | (go_at_call 21; refine (rSecret_any _ _).mono ?_; rintro e w' ⟨rfl, rfl⟩) | (go_at_call 17; refine (rIs_any _ _).mono ?_; rintro e w' ⟨rfl, rfl⟩))
    all_goals (go_ret; exact ⟨by rw [HE.out]; rfl, rfl⟩)
  · cases hk : okSecret k
    · have HE : Hid (sgE x k m = 1) := Lib.hid (by simp [sgE, okSign, hx, hk])
      go_enter Tryz.func27, Tryz.ntmps27
      go_wp2_with (first | (go_at_call 21; refine (rSecret_any _ _).mono ?_; rintro e w' ⟨rfl, rfl⟩) | (go_at_call 17; refine (rIs_any _ _).mono ?_; rintro e w' ⟨rfl, rfl⟩))
      all_goals (go_ret; exact ⟨by rw [HE.out]; rfl, rfl⟩)
    · cases hm : okM m
      · have HE : Hid (sgE x k m = 1) := Lib.hid (by simp [sgE, okSign, hx, hk, hm])
        go_enter Tryz.func27, Tryz.ntmps27
        go_wp2_with (first | (go_at_call 21; refine (rSecret_any _ _).mono ?_; rintro e w' ⟨rfl, rfl⟩) | (go_at_call 17; refine (rIs_any _ _).mono ?_; rintro e w' ⟨rfl, rfl⟩))
        all_goals (go_ret; exact ⟨by rw [HE.out]; rfl, rfl⟩)
      · have HE : Hid (sgE x k m = 0) := Lib.hid (by simp [sgE, okSign, hx, hk, hm])
        go_enter Tryz.func27, Tryz.ntmps27
        go_wp2_with (first | (go_at_call 21; refine (rSecret_any _ _).mono ?_; rintro e w' ⟨rfl, rfl⟩) | (go_at_call 17; refine (rIs_any _ _).mono ?_; rintro e w' ⟨rfl, rfl⟩))
        all_goals (go_ret; exact ⟨by rw [HE.out]; rfl, rfl⟩)

theorem pw_zero (a : Nat) : pw a 0 = 1 := by unfold pw; rw [Nat.pow_zero]
theorem pw_odd (a n : Nat) (h : n % 2 = 1) : pw a n = pw a (n / 2) * pw a (n / 2) % 1543 * a % 1543 := by
  unfold pw
  rw [Nat.mod_mul_mod, Nat.mul_assoc, Nat.mod_mul_mod, Nat.mul_left_comm, Nat.mod_mul_mod, ← Nat.mul_assoc, ← Nat.pow_add, ← Nat.pow_succ]
  congr 2; omega
theorem pw_even (a n : Nat) (h : n % 2 = 0) : pw a n = pw a (n / 2) * pw a (n / 2) % 1543 := by
  unfold pw
  rw [← Nat.mul_mod, ← Nat.pow_add]
  congr 2; omega
theorem pwI_nat (a n : Nat) : pwI a n = (pw a n : Int) := rfl

set_option maxHeartbeats 1000000 in
theorem rPower_nat (a : Nat) (ha : a < 1543) : ∀ (n : Nat), n ≤ 100000 → ∀ w : World,
    Calls Tryz.prog 22 #[.int .i64 a, .int .i64 n] w fun e w' => e = .returned (.int .i64 (pw a n : Nat)) ∧ w = w' := by
  intro n
  induction n using Nat.strongRecOn with
  | _ n ih =>
    intro hn w
    by_cases h0 : n = 0
    · subst h0
      have HE := Lib.hid (pw_zero a)
      clear ih
      go_enter Tryz.func22, Tryz.ntmps22
      go_wp2
      go_ret
      exact ⟨by rw [HE.out]; rfl, rfl⟩
    · have hi := ih (n / 2) (by omega) (by omega)
      have HI := Lib.hid hi
      have t0 : ((n : Int) == 0) = false := beq_eq_false_iff_ne.2 (by omega)
      have hq := pw_lt a (n / 2)
      rcases Nat.mod_two_eq_zero_or_one n with hm | hm
      · have t1 : ((n : Int) % 2 == 1) = false := beq_eq_false_iff_ne.2 (by omega)
        have HE := Lib.hid (pw_even a n hm)
        clear ih hi hm h0
        obtain ⟨q, hqe⟩ : ∃ q, pw a (n / 2) = q := ⟨_, rfl⟩
        rw [hqe] at hq HE
        have HQ := Lib.hid hqe
        clear hqe
        obtain ⟨b1, b2⟩ := mul_bd hq hq
        go_enter Tryz.func22, Tryz.ntmps22
        go_wp2_with fail
        rw [show ((n : Int) / 2) = ((n / 2 : Nat) : Int) from by omega]
        refine (HI.out _).mono ?_
        rintro e w' ⟨rfl, rfl⟩
        rw [HQ.out]
        go_wp2_with fail
        go_ret
        exact ⟨i64_lit (by rw [HE.out]; simp), rfl⟩
      · have t1 : ((n : Int) % 2 == 1) = true := beq_iff_eq.2 (by omega)
        have HE := Lib.hid (pw_odd a n hm)
        clear ih hi hm h0
        obtain ⟨q, hqe⟩ : ∃ q, pw a (n / 2) = q := ⟨_, rfl⟩
        rw [hqe] at hq HE
        have HQ := Lib.hid hqe
        clear hqe
        obtain ⟨b1, b2⟩ := mul_bd hq hq
        have hq2 : q * q % 1543 < 1543 := Nat.mod_lt _ (by decide)
        obtain ⟨b3, b4⟩ := mul_bd hq2 ha
        rw [Int.natCast_emod, Int.natCast_mul] at b3 b4
        have b5 : (0 : Int) ≤ (q : Int) * q % 1543 * a := b3
        have b6 : (q : Int) * q % 1543 * a ≤ 2400000 := b4
        clear b3 b4
        go_enter Tryz.func22, Tryz.ntmps22
        go_wp2_with fail
        rw [show ((n : Int) / 2) = ((n / 2 : Nat) : Int) from by omega]
        refine (HI.out _).mono ?_
        rintro e w' ⟨rfl, rfl⟩
        rw [HQ.out]
        go_wp2_with fail
        go_ret
        exact ⟨i64_lit (by rw [HE.out, Int.natCast_emod, Int.natCast_mul, Int.natCast_emod, Int.natCast_mul]; rfl), rfl⟩

theorem rPower_any (a n : Int) (w : World) (h0 : 0 ≤ a) (ha : a ≤ 1542) (h1 : 0 ≤ n) (hn : n ≤ 100000) :
    Calls Tryz.prog 22 #[.int .i64 a, .int .i64 n] w fun e w' => e = .returned (.int .i64 (pwI a n)) ∧ w = w' := by
  obtain ⟨a, rfl⟩ := Int.eq_ofNat_of_zero_le h0
  obtain ⟨n, rfl⟩ := Int.eq_ofNat_of_zero_le h1
  exact rPower_nat a (by omega) n (by omega) w

set_option maxHeartbeats 400000 in
theorem rSign_any (x k m : Int) (w : World) (hx : okSecret x = true) (hk : okSecret k = true) (hm : okM m = true) :
    Calls Tryz.prog 28 #[.int .i64 x, .int .i64 k, .int .i64 m] w fun e w' => e = .returned (.agg #[.int .i64 (pwI 64 k), .int .i64 (sealA x k m)]) ∧ Below w.heap.size w w' := by
  obtain ⟨x1, x2⟩ := okSecret_yes hx
  obtain ⟨k1, k2⟩ := okSecret_yes hk
  obtain ⟨c1, c2⟩ := chM_bd (pwI 64 k) (pwI 64 x) m
  obtain ⟨m1, m2⟩ := mulI_bd c1 (by omega) (by omega : 0 ≤ x) (by omega)
  have hk' := okM_pwI 64 k
  have hx' := okM_pwI 64 x
  clear hx hk
  go_enter Tryz.func28, Tryz.ntmps28
  go_wp2_with fail
  refine (rPower_any _ _ _ (by omega) (by omega) (by omega) (by omega)).mono ?_
  rintro e w' ⟨rfl, rfl⟩
  go_wp2_with fail
  refine (rPower_any _ _ _ (by omega) (by omega) (by omega) (by omega)).mono ?_
  rintro e w' ⟨rfl, rfl⟩
  go_wp2_with fail
  refine (rChallenge_any _ _ _ _ hk' hx' hm).mono ?_
  rintro e w1 ⟨rfl, hb⟩
  obtain ⟨hc, hf⟩ := bcell hb
  have hz : w.heap.size + 1 ≤ w1.heap.size := by have := hb.size; simpa using this
  go_wp2_with fail
  exact bodyPost_ret (v := .agg #[.int .i64 (pwI 64 k), .int .i64 (sealA x k m)]) (by simp [results, Tryz.results28, go_sem, hc, sealA]) rfl ⟨rfl, (by repeat (first | (with_reducible exact grow_refl _) | (with_reducible assumption) | (with_reducible refine grow_alloc ?_ _) | (with_reducible refine grow_set ?_ (by first | exact Nat.le_refl _ | (simp; done) | (simp; omega) | omega) _) | (with_reducible refine grow_drewN ?_ _) | (with_reducible refine grow_drew ?_) | (with_reducible refine grow_step ?_ (by assumption)) | (with_reducible refine grow_base ?_ (by assumption))))⟩

end Go.Proofs.YtegiffdlfpdbkaaGreatDoor

namespace Go.Proofs.YtegiffdlfpdbkaaGreatDoor
open Go.RowKit

set_option maxHeartbeats 1000000 in
theorem rRight_any (q m p a : Int) (w : World) :
    Calls Tryz.prog 29 #[.int .i64 q, .int .i64 m, .agg #[.int .i64 p, .int .i64 a]] w fun e w' => e = .returned (.int .i64 (rightE q m p a)) ∧ Below w.heap.size w w' := by
  cases hq : okIn q
  · have HE : Hid (rightE q m p a = 1) := Lib.hid (by simp [rightE, okSeal, hq])
    go_enter Tryz.func29, Tryz.ntmps29
    go_wp2_with (first | (go_at_call 42; refine (rIn_any _ _).mono ?_; rintro e w' ⟨rfl, rfl⟩) | (go_at_call 17; refine (rIs_any _ _).mono ?_; rintro e w' ⟨rfl, rfl⟩))
    go_ret
    exact ⟨by rw [HE.out]; rfl, (by repeat (first | (with_reducible exact grow_refl _) | (with_reducible assumption) | (with_reducible refine grow_alloc ?_ _) | (with_reducible refine grow_set ?_ (by first | exact Nat.le_refl _ | (simp; done) | (simp; omega) | omega) _) | (with_reducible refine grow_drewN ?_ _) | (with_reducible refine grow_drew ?_) | (with_reducible refine grow_step ?_ (by assumption)) | (with_reducible refine grow_base ?_ (by assumption))))⟩
  · cases hp : okIn p
    · have HE : Hid (rightE q m p a = 1) := Lib.hid (by simp [rightE, okSeal, hp])
      go_enter Tryz.func29, Tryz.ntmps29
      go_wp2_with (first | (go_at_call 42; refine (rIn_any _ _).mono ?_; rintro e w' ⟨rfl, rfl⟩) | (go_at_call 17; refine (rIs_any _ _).mono ?_; rintro e w' ⟨rfl, rfl⟩))
      go_ret
      exact ⟨by rw [HE.out]; rfl, (by repeat (first | (with_reducible exact grow_refl _) | (with_reducible assumption) | (with_reducible refine grow_alloc ?_ _) | (with_reducible refine grow_set ?_ (by first | exact Nat.le_refl _ | (simp; done) | (simp; omega) | omega) _) | (with_reducible refine grow_drewN ?_ _) | (with_reducible refine grow_drew ?_) | (with_reducible refine grow_step ?_ (by assumption)) | (with_reducible refine grow_base ?_ (by assumption))))⟩
    · cases hm : okM m
      · have HE : Hid (rightE q m p a = 1) := Lib.hid (by simp [rightE, okSeal, hm])
        go_enter Tryz.func29, Tryz.ntmps29
        go_wp2_with (first | (go_at_call 42; refine (rIn_any _ _).mono ?_; rintro e w' ⟨rfl, rfl⟩) | (go_at_call 17; refine (rIs_any _ _).mono ?_; rintro e w' ⟨rfl, rfl⟩))
        go_ret
        exact ⟨by rw [HE.out]; rfl, (by repeat (first | (with_reducible exact grow_refl _) | (with_reducible assumption) | (with_reducible refine grow_alloc ?_ _) | (with_reducible refine grow_set ?_ (by first | exact Nat.le_refl _ | (simp; done) | (simp; omega) | omega) _) | (with_reducible refine grow_drewN ?_ _) | (with_reducible refine grow_drew ?_) | (with_reducible refine grow_step ?_ (by assumption)) | (with_reducible refine grow_base ?_ (by assumption))))⟩
      · by_cases ha : a < 0
        · have HE : Hid (rightE q m p a = 1) := Lib.hid (by
            have : okAns a = false := decide_eq_false (by omega)
            simp [rightE, okSeal, this])
          go_enter Tryz.func29, Tryz.ntmps29
          go_wp2_with (first | (go_at_call 42; refine (rIn_any _ _).mono ?_; rintro e w' ⟨rfl, rfl⟩) | (go_at_call 17; refine (rIs_any _ _).mono ?_; rintro e w' ⟨rfl, rfl⟩))
          go_ret
          exact ⟨by rw [HE.out]; rfl, (by repeat (first | (with_reducible exact grow_refl _) | (with_reducible assumption) | (with_reducible refine grow_alloc ?_ _) | (with_reducible refine grow_set ?_ (by first | exact Nat.le_refl _ | (simp; done) | (simp; omega) | omega) _) | (with_reducible refine grow_drewN ?_ _) | (with_reducible refine grow_drew ?_) | (with_reducible refine grow_step ?_ (by assumption)) | (with_reducible refine grow_base ?_ (by assumption))))⟩
        · by_cases ha2 : 256 < a
          · have HE : Hid (rightE q m p a = 1) := Lib.hid (by
              have : okAns a = false := decide_eq_false (by omega)
              simp [rightE, okSeal, this])
            go_enter Tryz.func29, Tryz.ntmps29
            go_wp2_with (first | (go_at_call 42; refine (rIn_any _ _).mono ?_; rintro e w' ⟨rfl, rfl⟩) | (go_at_call 17; refine (rIs_any _ _).mono ?_; rintro e w' ⟨rfl, rfl⟩))
            go_ret
            exact ⟨by rw [HE.out]; rfl, (by repeat (first | (with_reducible exact grow_refl _) | (with_reducible assumption) | (with_reducible refine grow_alloc ?_ _) | (with_reducible refine grow_set ?_ (by first | exact Nat.le_refl _ | (simp; done) | (simp; omega) | omega) _) | (with_reducible refine grow_drewN ?_ _) | (with_reducible refine grow_drew ?_) | (with_reducible refine grow_step ?_ (by assumption)) | (with_reducible refine grow_base ?_ (by assumption))))⟩
          · have hok : okSeal q m p a = true := by
              have : okAns a = true := decide_eq_true (by omega)
              simp [okSeal, hq, hp, hm, this]
            obtain ⟨q1, q2⟩ := okIn_yes hq
            obtain ⟨c1, c2⟩ := chM_bd p q m
            obtain ⟨m1, m2⟩ := pw_prod_bd (p := p) (q := q) (c := chM p q m) hp
            have kp := okM_of_in hp
            have kq := okM_of_in hq
            have e1 : (IntKind.i64.wrap (p * pwI q (chM p q m))).tmod 1543 = p * pwI q (chM p q m) % 1543 := by
              rw [IntWalk.i64_in _ (by omega), Int.tmod_eq_emod_of_nonneg m1]
            obtain ⟨z, hz⟩ : ∃ z, (IntKind.i64.wrap (p * pwI q (chM p q m))).tmod 1543 = z := ⟨_, rfl⟩
            have heq : rightE q m p a = if pwI 64 a = z then 0 else 8 := by
              unfold rightE eqSeal
              rw [hok, ← hz, e1, if_pos rfl]
              by_cases h : pwI 64 a = p * pwI q (chM p q m) % 1543
              · rw [if_pos h, if_pos (by simpa using h)]
              · rw [if_neg h, if_neg (by simpa using h)]
            have HE := Lib.hid heq
            have HZ := Lib.hid hz
            clear heq hz e1 hok
            go_enter Tryz.func29, Tryz.ntmps29
            go_wp2_with (first | (go_at_call 42; refine (rIn_any _ _).mono ?_; rintro e w' ⟨rfl, rfl⟩) | (go_at_call 17; refine (rIs_any _ _).mono ?_; rintro e w' ⟨rfl, rfl⟩) | (go_at_call 41; refine (rChallenge_any _ _ _ _ kp kq hm).mono ?_; rintro e w1 ⟨rfl, hb1⟩; have BX := (Box.new _ _ _).below hb1; have cX := BX.cell; have lX := BX.lt))
            have hB1 : Below w.heap.size w w1 := (by repeat (first | (with_reducible exact grow_refl _) | (with_reducible assumption) | (with_reducible refine grow_alloc ?_ _) | (with_reducible refine grow_set ?_ (by first | exact Nat.le_refl _ | (simp; done) | (simp; omega) | omega) _) | (with_reducible refine grow_drewN ?_ _) | (with_reducible refine grow_drew ?_) | (with_reducible refine grow_step ?_ (by assumption)) | (with_reducible refine grow_base ?_ (by assumption))))
            go_region_held3 (fun w' => w'.cell? ⟨w.heap.size, 0, none⟩ = some (.int .i64 p) ∧ w'.cell? ⟨w.heap.size, 1, none⟩ = some (.int .i64 a) ∧ Below w.heap.size w w')
              (first
                | (go_keep; done)
                | exact ⟨(cX 0).trans rfl, (cX 1).trans rfl, grow_drew hB1⟩
                | (go_split_ands; exact ⟨by assumption, by assumption, by assumption⟩))
              (first
                | (go_at_call_of 22 (Value.int IntKind.i64 64); refine (rPower_any _ _ _ (by omega) (by omega) (by omega) (by omega)).mono ?_; rintro e w1 ⟨rfl, rfl⟩)
                | (go_at_call 22; refine (rPower_any _ _ _ (by omega) (by omega) (by omega) (by omega)).mono ?_; rintro e w1 ⟨rfl, rfl⟩))
            rw [HZ.out]
            have hB2 := grow_drew hB1
            by_cases h : pwI 64 a = z
            · have t : (pwI 64 a != z) = false := by simp [h]
              have HF : Hid (rightE q m p a = 0) := Lib.hid (by rw [HE.out, if_pos h])
              clear h
              go_wp2_with fail
              go_ret
              exact ⟨by rw [HF.out]; rfl, by assumption⟩
            · have t : (pwI 64 a != z) = true := by simp [h]
              have HF : Hid (rightE q m p a = 8) := Lib.hid (by rw [HE.out, if_neg h])
              clear h
              go_wp2_with fail
              go_ret
              exact ⟨by rw [HF.out]; rfl, by assumption⟩


end Go.Proofs.YtegiffdlfpdbkaaGreatDoor
