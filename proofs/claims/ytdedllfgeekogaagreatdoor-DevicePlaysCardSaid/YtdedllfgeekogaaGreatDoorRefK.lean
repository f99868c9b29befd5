/- The walks of the reference: keys, seals, certs. The walks of the reference: whether a seal is right; the last key of certs. -/
import Derived.Test.YtdedllfgeekogaaGreatDoorRows
import Derived.Test.YtdedllfgeekogaaGreatDoorNum
import Derived.Test.YtdedllfgeekogaaGreatDoorBase
import Derived.Test.YtdedllfgeekogaaGreatDoorMeas
import Derived.Test.YtdedllfgeekogaaGreatDoorKey
import Derived.Test.YtdedllfgeekogaaGreatDoorCert
import Derived.Test.YtdedllfgeekogaaGreatDoorRefA
import Derived.Test.YtdedllfgeekogaaGreatDoorRefB
import Derived.WalkKit
import Derived.Lib.Hide
import Derived.Deep.RegionHeld3
namespace Go.Proofs.YtdedllfgeekogaaGreatDoor
open Go.RowKit

set_option maxHeartbeats 400000 in
theorem rSecret_any (x : Int) (w : World) :
    Calls Tryz.prog 21 #[.int .i64 x] w fun e w' => e = .returned (.bool (okSecret x)) ∧ w = w' := by
  by_cases h1 : 1 ≤ x
  · by_cases h2 : x ≤ 256
    · have h : okSecret x = true := decide_eq_true (by omega)
      rw [h]
      go_enter Tryz.func21, Tryz.ntmps21
      go_wp2
      go_ret
      exact ⟨rfl, rfl⟩
    · have h : okSecret x = false := decide_eq_false (by omega)
      rw [h]
      go_enter Tryz.func21, Tryz.ntmps21
      go_wp2
      go_ret
      exact ⟨rfl, rfl⟩
  · have h : okSecret x = false := decide_eq_false (by omega)
    rw [h]
    go_enter Tryz.func21, Tryz.ntmps21
    go_wp2
    go_ret
    exact ⟨rfl, rfl⟩

set_option maxHeartbeats 400000 in
theorem rIn_any (n : Int) (w : World) :
    Calls Tryz.prog 20 #[.int .i64 n] w fun e w' => e = .returned (.bool (okIn n)) ∧ w = w' := by
  by_cases h1 : 1 ≤ n
  · by_cases h2 : n ≤ 1542
    · have h : okIn n = true := decide_eq_true (by omega)
      rw [h]
      go_enter Tryz.func20, Tryz.ntmps20
      go_wp2
      go_ret
      exact ⟨rfl, rfl⟩
    · have h : okIn n = false := decide_eq_false (by omega)
      rw [h]
      go_enter Tryz.func20, Tryz.ntmps20
      go_wp2
      go_ret
      exact ⟨rfl, rfl⟩
  · have h : okIn n = false := decide_eq_false (by omega)
    rw [h]
    go_enter Tryz.func20, Tryz.ntmps20
    go_wp2
    go_ret
    exact ⟨rfl, rfl⟩

set_option maxHeartbeats 1000000 in
theorem rSigned_any (x k m : Int) (w : World) :
    Calls Tryz.prog 32 #[.int .i64 x, .int .i64 k, .int .i64 m] w fun e w' => e = .returned (.int .i64 (sgE x k m)) ∧ w = w' := by
  cases hx : okSecret x
  · have HE : Hid (sgE x k m = 1) := Lib.hid (by simp [sgE, okSign, hx])
    go_enter Tryz.func32, Tryz.ntmps32
    go_wp2_with (first | (go_at_call 21; refine (rSecret_any _ _).mono ?_; rintro e w' ⟨rfl, rfl⟩) | (go_at_call 76; refine (rIs_any _ _).mono ?_; rintro e w' ⟨rfl, rfl⟩))
    all_goals (go_ret; exact ⟨by rw [HE.out]; rfl, rfl⟩)
  · cases hk : okSecret k
    · have HE : Hid (sgE x k m = 1) := Lib.hid (by simp [sgE, okSign, hx, hk])
      go_enter Tryz.func32, Tryz.ntmps32
      go_wp2_with (first | (go_at_call 21; refine (rSecret_any _ _).mono ?_; rintro e w' ⟨rfl, rfl⟩) | (go_at_call 76; refine (rIs_any _ _).mono ?_; rintro e w' ⟨rfl, rfl⟩))
      all_goals (go_ret; exact ⟨by rw [HE.out]; rfl, rfl⟩)
    · cases hm : okM m
      · have HE : Hid (sgE x k m = 1) := Lib.hid (by simp [sgE, okSign, hx, hk, hm])
        go_enter Tryz.func32, Tryz.ntmps32
        go_wp2_with (first | (go_at_call 21; refine (rSecret_any _ _).mono ?_; rintro e w' ⟨rfl, rfl⟩) | (go_at_call 76; refine (rIs_any _ _).mono ?_; rintro e w' ⟨rfl, rfl⟩))
        all_goals (go_ret; exact ⟨by rw [HE.out]; rfl, rfl⟩)
      · have HE : Hid (sgE x k m = 0) := Lib.hid (by simp [sgE, okSign, hx, hk, hm])
        go_enter Tryz.func32, Tryz.ntmps32
        go_wp2_with (first | (go_at_call 21; refine (rSecret_any _ _).mono ?_; rintro e w' ⟨rfl, rfl⟩) | (go_at_call 76; refine (rIs_any _ _).mono ?_; rintro e w' ⟨rfl, rfl⟩))
        all_goals (go_ret; exact ⟨by rw [HE.out]; rfl, rfl⟩)

theorem pw_zero (a : Nat) : pw a 0 = 1 := by unfold pw; rw [Nat.pow_zero]
theorem pw_odd (a n : Nat) (h : n % 2 = 1) : pw a n = pw a (n / 2) * pw a (n / 2) % 1543 * a % 1543 := by
  unfold pw
  rw [Nat.mod_mul_mod, Nat.mul_assoc, Nat.mod_mul_mod, Nat.mul_left_comm, Nat.mod_mul_mod, ← Nat.mul_assoc, ← Nat.pow_add, ← Nat.pow_succ]
  congr 2; omega
theorem pw_even (a n : Nat) (h : n % 2 = 0) : pw a n = pw a (n / 2) * pw a (n / 2) % 1543 := by
  unfold pw
  rw [← Nat.mul_mod, ← Nat.pow_add]
  congr 2; omega
theorem pwI_nat (a n : Nat) : pwI a n = (pw a n : Int) := rfl

set_option maxHeartbeats 1000000 in
theorem rPower_nat (a : Nat) (ha : a < 1543) : ∀ (n : Nat), n ≤ 100000 → ∀ w : World,
    Calls Tryz.prog 78 #[.int .i64 a, .int .i64 n] w fun e w' => e = .returned (.int .i64 (pw a n : Nat)) ∧ w = w' := by
  intro n
  induction n using Nat.strongRecOn with
  | _ n ih =>
    intro hn w
    by_cases h0 : n = 0
    · subst h0
      have HE := Lib.hid (pw_zero a)
      clear ih
      go_enter Tryz.func78, Tryz.ntmps78
      go_wp2
      go_ret
      exact ⟨by rw [HE.out]; rfl, rfl⟩
    · have hi := ih (n / 2) (by omega) (by omega)
      have HI := Lib.hid hi
      have t0 : ((n : Int) == 0) = false := beq_eq_false_iff_ne.2 (by omega)
      have hq := pw_lt a (n / 2)
      rcases Nat.mod_two_eq_zero_or_one n with hm | hm
      · have t1 : ((n : Int) % 2 == 1) = false := beq_eq_false_iff_ne.2 (by omega)
        have HE := Lib.hid (pw_even a n hm)
        clear ih hi hm h0
        obtain ⟨q, hqe⟩ : ∃ q, pw a (n / 2) = q := ⟨_, rfl⟩
        rw [hqe] at hq HE
        have HQ := Lib.hid hqe
        clear hqe
        obtain ⟨b1, b2⟩ := mul_bd hq hq
        go_enter Tryz.func78, Tryz.ntmps78
        go_wp2_with fail
        rw [show ((n : Int) / 2) = ((n / 2 : Nat) : Int) from by omega]
        refine (HI.out _).mono ?_
        rintro e w' ⟨rfl, rfl⟩
        rw [HQ.out]
        go_wp2_with fail
        go_ret
        exact ⟨i64_lit (by rw [HE.out]; simp), rfl⟩
      · have t1 : ((n : Int) % 2 == 1) = true := beq_iff_eq.2 (by omega)
        have HE := Lib.hid (pw_odd a n hm)
        clear ih hi hm h0
        obtain ⟨q, hqe⟩ : ∃ q, pw a (n / 2) = q := ⟨_, rfl⟩
        rw [hqe] at hq HE
        have HQ := Lib.hid hqe
        clear hqe
        obtain ⟨b1, b2⟩ := mul_bd hq hq
        have hq2 : q * q % 1543 < 1543 := Nat.mod_lt _ (by decide)
        obtain ⟨b3, b4⟩ := mul_bd hq2 ha
        rw [Int.natCast_emod, Int.natCast_mul] at b3 b4
        have b5 : (0 : Int) ≤ (q : Int) * q % 1543 * a := b3
        have b6 : (q : Int) * q % 1543 * a ≤ 2400000 := b4
        clear b3 b4
        go_enter Tryz.func78, Tryz.ntmps78
        go_wp2_with fail
        rw [show ((n : Int) / 2) = ((n / 2 : Nat) : Int) from by omega]
        refine (HI.out _).mono ?_
        rintro e w' ⟨rfl, rfl⟩
        rw [HQ.out]
        go_wp2_with fail
        go_ret
        exact ⟨i64_lit (by rw [HE.out, Int.natCast_emod, Int.natCast_mul, Int.natCast_emod, Int.natCast_mul]; rfl), rfl⟩

theorem rPower_any (a n : Int) (w : World) (h0 : 0 ≤ a) (ha : a ≤ 1542) (h1 : 0 ≤ n) (hn : n ≤ 100000) :
    Calls Tryz.prog 78 #[.int .i64 a, .int .i64 n] w fun e w' => e = .returned (.int .i64 (pwI a n)) ∧ w = w' := by
  obtain ⟨a, rfl⟩ := Int.eq_ofNat_of_zero_le h0
  obtain ⟨n, rfl⟩ := Int.eq_ofNat_of_zero_le h1
  exact rPower_nat a (by omega) n (by omega) w

set_option maxHeartbeats 400000 in
theorem rSign_any (x k m : Int) (w : World) (hx : okSecret x = true) (hk : okSecret k = true) (hm : okM m = true) :
    Calls Tryz.prog 34 #[.int .i64 x, .int .i64 k, .int .i64 m] w fun e w' => e = .returned (.agg #[.int .i64 (pwI 64 k), .int .i64 (sealA x k m)]) ∧ Below w.heap.size w w' := by
  obtain ⟨x1, x2⟩ := okSecret_yes hx
  obtain ⟨k1, k2⟩ := okSecret_yes hk
  obtain ⟨c1, c2⟩ := chM_bd (pwI 64 k) (pwI 64 x) m
  obtain ⟨m1, m2⟩ := mulI_bd c1 (by omega) (by omega : 0 ≤ x) (by omega)
  have hk' := okM_pwI 64 k
  have hx' := okM_pwI 64 x
  clear hx hk
  go_enter Tryz.func34, Tryz.ntmps34
  go_wp2_with fail
  refine (rPower_any _ _ _ (by omega) (by omega) (by omega) (by omega)).mono ?_
  rintro e w' ⟨rfl, rfl⟩
  go_wp2_with fail
  refine (rPower_any _ _ _ (by omega) (by omega) (by omega) (by omega)).mono ?_
  rintro e w' ⟨rfl, rfl⟩
  go_wp2_with fail
  refine (rChallenge_any _ _ _ _ hk' hx' hm).mono ?_
  rintro e w1 ⟨rfl, hb⟩
  obtain ⟨hc, hf⟩ := bcell hb
  have hz : w.heap.size + 1 ≤ w1.heap.size := by have := hb.size; simpa using this
  go_wp2_with fail
  exact bodyPost_ret (v := .agg #[.int .i64 (pwI 64 k), .int .i64 (sealA x k m)]) (by simp [results, Tryz.results34, go_sem, hc, sealA]) rfl ⟨rfl, (by repeat (first | (with_reducible exact grow_refl _) | (with_reducible assumption) | (with_reducible refine grow_alloc ?_ _) | (with_reducible refine grow_set ?_ (by first | exact Nat.le_refl _ | (simp; done) | (simp; omega) | omega) _) | (with_reducible refine grow_drewN ?_ _) | (with_reducible refine grow_drew ?_) | (with_reducible refine grow_step ?_ (by assumption)) | (with_reducible refine grow_base ?_ (by assumption))))⟩

end Go.Proofs.YtdedllfgeekogaaGreatDoor

namespace Go.Proofs.YtdedllfgeekogaaGreatDoor
open Go.RowKit

set_option maxHeartbeats 1000000 in
theorem rRight_any (q m p a : Int) (w : World) :
    Calls Tryz.prog 124 #[.int .i64 q, .int .i64 m, .agg #[.int .i64 p, .int .i64 a]] w fun e w' => e = .returned (.int .i64 (rightE q m p a)) ∧ Below w.heap.size w w' := by
  cases hq : okIn q
  · have HE : Hid (rightE q m p a = 1) := Lib.hid (by simp [rightE, okSeal, hq])
    go_enter Tryz.func124, Tryz.ntmps124
    go_wp2_with (first | (go_at_call 20; refine (rIn_any _ _).mono ?_; rintro e w' ⟨rfl, rfl⟩) | (go_at_call 76; refine (rIs_any _ _).mono ?_; rintro e w' ⟨rfl, rfl⟩))
    go_ret
    exact ⟨by rw [HE.out]; rfl, (by repeat (first | (with_reducible exact grow_refl _) | (with_reducible assumption) | (with_reducible refine grow_alloc ?_ _) | (with_reducible refine grow_set ?_ (by first | exact Nat.le_refl _ | (simp; done) | (simp; omega) | omega) _) | (with_reducible refine grow_drewN ?_ _) | (with_reducible refine grow_drew ?_) | (with_reducible refine grow_step ?_ (by assumption)) | (with_reducible refine grow_base ?_ (by assumption))))⟩
  · cases hp : okIn p
    · have HE : Hid (rightE q m p a = 1) := Lib.hid (by simp [rightE, okSeal, hp])
      go_enter Tryz.func124, Tryz.ntmps124
      go_wp2_with (first | (go_at_call 20; refine (rIn_any _ _).mono ?_; rintro e w' ⟨rfl, rfl⟩) | (go_at_call 76; refine (rIs_any _ _).mono ?_; rintro e w' ⟨rfl, rfl⟩))
      go_ret
      exact ⟨by rw [HE.out]; rfl, (by repeat (first | (with_reducible exact grow_refl _) | (with_reducible assumption) | (with_reducible refine grow_alloc ?_ _) | (with_reducible refine grow_set ?_ (by first | exact Nat.le_refl _ | (simp; done) | (simp; omega) | omega) _) | (with_reducible refine grow_drewN ?_ _) | (with_reducible refine grow_drew ?_) | (with_reducible refine grow_step ?_ (by assumption)) | (with_reducible refine grow_base ?_ (by assumption))))⟩
    · cases hm : okM m
      · have HE : Hid (rightE q m p a = 1) := Lib.hid (by simp [rightE, okSeal, hm])
        go_enter Tryz.func124, Tryz.ntmps124
        go_wp2_with (first | (go_at_call 20; refine (rIn_any _ _).mono ?_; rintro e w' ⟨rfl, rfl⟩) | (go_at_call 76; refine (rIs_any _ _).mono ?_; rintro e w' ⟨rfl, rfl⟩))
        go_ret
        exact ⟨by rw [HE.out]; rfl, (by repeat (first | (with_reducible exact grow_refl _) | (with_reducible assumption) | (with_reducible refine grow_alloc ?_ _) | (with_reducible refine grow_set ?_ (by first | exact Nat.le_refl _ | (simp; done) | (simp; omega) | omega) _) | (with_reducible refine grow_drewN ?_ _) | (with_reducible refine grow_drew ?_) | (with_reducible refine grow_step ?_ (by assumption)) | (with_reducible refine grow_base ?_ (by assumption))))⟩
      · by_cases ha : a < 0
        · have HE : Hid (rightE q m p a = 1) := Lib.hid (by
            have : okAns a = false := decide_eq_false (by omega)
            simp [rightE, okSeal, this])
          go_enter Tryz.func124, Tryz.ntmps124
          go_wp2_with (first | (go_at_call 20; refine (rIn_any _ _).mono ?_; rintro e w' ⟨rfl, rfl⟩) | (go_at_call 76; refine (rIs_any _ _).mono ?_; rintro e w' ⟨rfl, rfl⟩))
          go_ret
          exact ⟨by rw [HE.out]; rfl, (by repeat (first | (with_reducible exact grow_refl _) | (with_reducible assumption) | (with_reducible refine grow_alloc ?_ _) | (with_reducible refine grow_set ?_ (by first | exact Nat.le_refl _ | (simp; done) | (simp; omega) | omega) _) | (with_reducible refine grow_drewN ?_ _) | (with_reducible refine grow_drew ?_) | (with_reducible refine grow_step ?_ (by assumption)) | (with_reducible refine grow_base ?_ (by assumption))))⟩
        · by_cases ha2 : 256 < a
          · have HE : Hid (rightE q m p a = 1) := Lib.hid (by
              have : okAns a = false := decide_eq_false (by omega)
              simp [rightE, okSeal, this])
            go_enter Tryz.func124, Tryz.ntmps124
            go_wp2_with (first | (go_at_call 20; refine (rIn_any _ _).mono ?_; rintro e w' ⟨rfl, rfl⟩) | (go_at_call 76; refine (rIs_any _ _).mono ?_; rintro e w' ⟨rfl, rfl⟩))
            go_ret
            exact ⟨by rw [HE.out]; rfl, (by repeat (first | (with_reducible exact grow_refl _) | (with_reducible assumption) | (with_reducible refine grow_alloc ?_ _) | (with_reducible refine grow_set ?_ (by first | exact Nat.le_refl _ | (simp; done) | (simp; omega) | omega) _) | (with_reducible refine grow_drewN ?_ _) | (with_reducible refine grow_drew ?_) | (with_reducible refine grow_step ?_ (by assumption)) | (with_reducible refine grow_base ?_ (by assumption))))⟩
          · have hok : okSeal q m p a = true := by
              have : okAns a = true := decide_eq_true (by omega)
              simp [okSeal, hq, hp, hm, this]
            obtain ⟨q1, q2⟩ := okIn_yes hq
            obtain ⟨c1, c2⟩ := chM_bd p q m
            obtain ⟨m1, m2⟩ := pw_prod_bd (p := p) (q := q) (c := chM p q m) hp
            have kp := okM_of_in hp
            have kq := okM_of_in hq
            have e1 : (IntKind.i64.wrap (p * pwI q (chM p q m))).tmod 1543 = p * pwI q (chM p q m) % 1543 := by
              rw [IntWalk.i64_in _ (by omega), Int.tmod_eq_emod_of_nonneg m1]
            obtain ⟨z, hz⟩ : ∃ z, (IntKind.i64.wrap (p * pwI q (chM p q m))).tmod 1543 = z := ⟨_, rfl⟩
            have heq : rightE q m p a = if pwI 64 a = z then 0 else 8 := by
              unfold rightE eqSeal
              rw [hok, ← hz, e1, if_pos rfl]
              by_cases h : pwI 64 a = p * pwI q (chM p q m) % 1543
              · rw [if_pos h, if_pos (by simpa using h)]
              · rw [if_neg h, if_neg (by simpa using h)]
            have HE := Lib.hid heq
            have HZ := Lib.hid hz
            clear heq hz e1 hok
            go_enter Tryz.func124, Tryz.ntmps124
            go_wp2_with (first | (go_at_call 20; refine (rIn_any _ _).mono ?_; rintro e w' ⟨rfl, rfl⟩) | (go_at_call 76; refine (rIs_any _ _).mono ?_; rintro e w' ⟨rfl, rfl⟩) | (go_at_call 79; refine (rChallenge_any _ _ _ _ kp kq hm).mono ?_; rintro e w1 ⟨rfl, hb1⟩; have BX := (Box.new _ _ _).below hb1; have cX := BX.cell; have lX := BX.lt))
            have hB1 : Below w.heap.size w w1 := (by repeat (first | (with_reducible exact grow_refl _) | (with_reducible assumption) | (with_reducible refine grow_alloc ?_ _) | (with_reducible refine grow_set ?_ (by first | exact Nat.le_refl _ | (simp; done) | (simp; omega) | omega) _) | (with_reducible refine grow_drewN ?_ _) | (with_reducible refine grow_drew ?_) | (with_reducible refine grow_step ?_ (by assumption)) | (with_reducible refine grow_base ?_ (by assumption))))
            go_region_held3 (fun w' => w'.cell? ⟨w.heap.size, 0, none⟩ = some (.int .i64 p) ∧ w'.cell? ⟨w.heap.size, 1, none⟩ = some (.int .i64 a) ∧ Below w.heap.size w w')
              (first
                | (go_keep; done)
                | exact ⟨(cX 0).trans rfl, (cX 1).trans rfl, grow_drew hB1⟩
                | (go_split_ands; exact ⟨by assumption, by assumption, by assumption⟩))
              (first
                | (go_at_call_of 78 (Value.int IntKind.i64 64); refine (rPower_any _ _ _ (by omega) (by omega) (by omega) (by omega)).mono ?_; rintro e w1 ⟨rfl, rfl⟩)
                | (go_at_call 78; refine (rPower_any _ _ _ (by omega) (by omega) (by omega) (by omega)).mono ?_; rintro e w1 ⟨rfl, rfl⟩))
            rw [HZ.out]
            have hB2 := grow_drew hB1
            by_cases h : pwI 64 a = z
            · have t : (pwI 64 a != z) = false := by simp [h]
              have HF : Hid (rightE q m p a = 0) := Lib.hid (by rw [HE.out, if_pos h])
              clear h
              go_wp2_with fail
              go_ret
              exact ⟨by rw [HF.out]; rfl, by assumption⟩
            · have t : (pwI 64 a != z) = true := by simp [h]
              have HF : Hid (rightE q m p a = 8) := Lib.hid (by rw [HE.out, if_neg h])
              clear h
              go_wp2_with fail
              go_ret
              exact ⟨by rw [HF.out]; rfl, by assumption⟩

set_option maxHeartbeats 1000000 in
theorem rLast_any (root : Int) (A : Option Addr) (c : Nat) (cs : List (Int × Int × Int)) (w : World) (hA : CertsAt w A cs) (hbig : cs.length ≤ 9223372036854775807) :
    Calls Tryz.prog 101 #[.int .i64 root, .slice A cs.length c] w fun e w' => e = .returned (.tuple #[.int .i64 (certLast root cs).1, .int .i64 (certLast root cs).2]) ∧ Below w.heap.size w w' := by
  by_cases hl : 12 < cs.length
  · have HE : Hid (certLast root cs = (0, 4)) := Lib.hid (by simp [certLast, hl])
    go_enter Tryz.func101, Tryz.ntmps101
    go_wp2_with (go_at_call 20; refine (rIn_any _ _).mono ?_; rintro e w' ⟨rfl, rfl⟩)
    go_ret2
    exact ⟨by rw [HE.out]; rfl, (by repeat (first | (with_reducible exact grow_refl _) | (with_reducible assumption) | (with_reducible refine grow_alloc ?_ _) | (with_reducible refine grow_set ?_ (by first | exact Nat.le_refl _ | (simp; done) | (simp; omega) | omega) _) | (with_reducible refine grow_drewN ?_ _) | (with_reducible refine grow_drew ?_) | (with_reducible refine grow_step ?_ (by assumption)) | (with_reducible refine grow_base ?_ (by assumption))))⟩
  · cases hr : okIn root
    · have HE : Hid (certLast root cs = (0, 1)) := Lib.hid (by simp [certLast, hl, hr])
      go_enter Tryz.func101, Tryz.ntmps101
      go_wp2_with (go_at_call 20; refine (rIn_any _ _).mono ?_; rintro e w' ⟨rfl, rfl⟩)
      go_ret2
      exact ⟨by rw [HE.out]; rfl, (by repeat (first | (with_reducible exact grow_refl _) | (with_reducible assumption) | (with_reducible refine grow_alloc ?_ _) | (with_reducible refine grow_set ?_ (by first | exact Nat.le_refl _ | (simp; done) | (simp; omega) | omega) _) | (with_reducible refine grow_drewN ?_ _) | (with_reducible refine grow_drew ?_) | (with_reducible refine grow_step ?_ (by assumption)) | (with_reducible refine grow_base ?_ (by assumption))))⟩
    · have HE : Hid (certLast root cs = lastGo root cs) := Lib.hid (by simp [certLast, hl, hr])
      have HR := Lib.hid hr
      have HA := Lib.hid hA
      clear hA hbig
      go_enter Tryz.func101, Tryz.ntmps101
      go_wp2_with (go_at_call 20; refine (rIn_any _ _).mono ?_; rintro e w' ⟨rfl, rfl⟩)
      clear hr
      go_loopw [0, 6, 7, 8] (fun r _ i _ wr => ∃ (k : Nat) (q : Int), k ≤ cs.length ∧ i = .int .i64 k ∧ r = .int .i64 q ∧ Hid (lastGo root cs = lastGo q (cs.drop k)) ∧ Below w.heap.size w wr) (fun _ _ i _ _ => cs.length - (intOf i).toNat)
      case atStart => exact ⟨0, root, Nat.zero_le _, rfl, rfl, Lib.hid rfl, (by repeat (first | (with_reducible exact grow_refl _) | (with_reducible assumption) | (with_reducible refine grow_alloc ?_ _) | (with_reducible refine grow_set ?_ (by first | exact Nat.le_refl _ | (simp; done) | (simp; omega) | omega) _) | (with_reducible refine grow_drewN ?_ _) | (with_reducible refine grow_drew ?_) | (with_reducible refine grow_step ?_ (by assumption)) | (with_reducible refine grow_base ?_ (by assumption))))⟩
      case round =>
        obtain ⟨k, q, hk, rfl, rfl, HL, hb⟩ := hrel
        by_cases hlt : k < cs.length
        · obtain ⟨b, off, rfl, hblt, h1, h2, h3⟩ := (HA.out.below hb) k hlt
          have HD := Lib.hid (drop_cons cs (0, 0, 0) k hlt)
          obtain ⟨⟨x, p, a⟩, hxe⟩ : ∃ t, cs.getD k (0, 0, 0) = t := ⟨_, rfl⟩
          rw [hxe] at h1 h2 h3 HD
          clear hxe
          simp only at h1 h2 h3
          have HS : Hid (lastGo root cs = if okIn x then (if rightE q x p a = 0 then lastGo x (cs.drop (k + 1)) else (0, rightE q x p a)) else (0, 1)) := Lib.hid (by rw [HL.out, HD.out]; rfl)
          clear HL HD
          cases hx : okIn x
          · have HF : Hid (lastGo root cs = (0, 1)) := Lib.hid (by rw [HS.out, hx]; rfl)
            go_wp2_with (go_at_call 20; refine (rIn_any _ _).mono ?_; rintro e w' ⟨rfl, rfl⟩)
            go_ret2
            exact ⟨by rw [HE.out, HF.out]; rfl, (by repeat (first | (with_reducible exact grow_refl _) | (with_reducible assumption) | (with_reducible refine grow_alloc ?_ _) | (with_reducible refine grow_set ?_ (by first | exact Nat.le_refl _ | (simp; done) | (simp; omega) | omega) _) | (with_reducible refine grow_drewN ?_ _) | (with_reducible refine grow_drew ?_) | (with_reducible refine grow_step ?_ (by assumption)) | (with_reducible refine grow_base ?_ (by assumption))))⟩
          · have HS2 : Hid (lastGo root cs = if rightE q x p a = 0 then lastGo x (cs.drop (k + 1)) else (0, rightE q x p a)) := Lib.hid (by rw [HS.out, hx, if_pos rfl])
            have i1 := h1
            have i2 := h2
            have i3 := h3
            clear HS
            go_wp2_with (go_at_call 20; refine (rIn_any _ _).mono ?_; rintro e w' ⟨rfl, rfl⟩)
            go_region_held3 (fun w' => w'.cell? ⟨b, off + k * 3, none⟩ = some (.int .i64 x) ∧ w'.cell? ⟨b, off + k * 3 + 1, none⟩ = some (.int .i64 p) ∧ w'.cell? ⟨b, off + k * 3 + 2, none⟩ = some (.int .i64 a) ∧ Below w.heap.size w w' ∧ b < w'.heap.size)
              (first
                | (go_keep; done)
                | exact ⟨i1, i2, i3, grow_drew hb, hblt⟩
                | (go_split_ands; exact ⟨(hb1.cell (p := ⟨b, off + k * 3, none⟩) (by assumption)).trans (by assumption), (hb1.cell (p := ⟨b, off + k * 3 + 1, none⟩) (by assumption)).trans (by assumption), (hb1.cell (p := ⟨b, off + k * 3 + 2, none⟩) (by assumption)).trans (by assumption), grow_step (by assumption) hb1, Nat.lt_of_lt_of_le (by assumption) hb1.size⟩))
              (first | (go_at_call 124; refine (rRight_any _ _ _ _ _).mono ?_; rintro e w1 ⟨rfl, hb1⟩))
            go_split_ands
            by_cases hz : rightE q x p a = 0
            · have HF : Hid (lastGo root cs = lastGo x (cs.drop (k + 1))) := Lib.hid (by rw [HS2.out, if_pos hz])
              have t : (rightE q x p a != 0) = false := by simp [hz]
              clear hz HS2
              go_wp2_with fail
              go_roundw
              case rel => exact ⟨k + 1, x, by omega, by go_num, rfl, HF, by assumption⟩
              case measure => simp [intOf]; omega
            · have HF : Hid (lastGo root cs = (0, rightE q x p a)) := Lib.hid (by rw [HS2.out, if_neg hz])
              have t : (rightE q x p a != 0) = true := by simp [hz]
              clear hz HS2
              go_wp2_with fail
              go_ret2
              exact ⟨by rw [HE.out, HF.out]; rfl, by assumption⟩
        · have HF : Hid (lastGo root cs = (q, 0)) := Lib.hid (by rw [HL.out, List.drop_eq_nil_of_le (by omega)]; rfl)
          go_wp2
          go_ret2
          exact ⟨by rw [HE.out, HF.out]; rfl, (by repeat (first | (with_reducible exact grow_refl _) | (with_reducible assumption) | (with_reducible refine grow_alloc ?_ _) | (with_reducible refine grow_set ?_ (by first | exact Nat.le_refl _ | (simp; done) | (simp; omega) | omega) _) | (with_reducible refine grow_drewN ?_ _) | (with_reducible refine grow_drew ?_) | (with_reducible refine grow_step ?_ (by assumption)) | (with_reducible refine grow_base ?_ (by assumption))))⟩

end Go.Proofs.YtdedllfgeekogaaGreatDoor
