/- The walks of the reference: keys, seals, certs. -/
import Derived.Test.YtflhbnaocognlaaGreatDoorRows
import Derived.Test.YtflhbnaocognlaaGreatDoorNum
import Derived.Test.YtflhbnaocognlaaGreatDoorBase
import Derived.Test.YtflhbnaocognlaaGreatDoorMeas
import Derived.Test.YtflhbnaocognlaaGreatDoorKey
import Derived.Test.YtflhbnaocognlaaGreatDoorCert
import Derived.Test.YtflhbnaocognlaaGreatDoorRefA
import Derived.Test.YtflhbnaocognlaaGreatDoorRefB
import Derived.WalkKit
import Derived.Lib.Hide
import Derived.Deep.RegionHeld3
namespace Go.Proofs.YtflhbnaocognlaaGreatDoor
open Go.RowKit


set_option maxHeartbeats 400000 in
theorem rIn_any (n : Int) (w : World) :
    Calls Tryz.prog 46 #[.int .i64 n] w fun e w' => e = .returned (.bool (okIn n)) ∧ w = w' := by
  by_cases h1 : 1 ≤ n
  · by_cases h2 : n ≤ 1542
    · have h : okIn n = true := decide_eq_true (by omega)
      rw [h]
      go_enter Tryz.func46, Tryz.ntmps46
      go_wp2
      go_ret
      exact ⟨rfl, rfl⟩
    · have h : okIn n = false := decide_eq_false (by omega)
      rw [h]
      go_enter Tryz.func46, Tryz.ntmps46
      go_wp2
      go_ret
      exact ⟨rfl, rfl⟩
  · have h : okIn n = false := decide_eq_false (by omega)
    rw [h]
    go_enter Tryz.func46, Tryz.ntmps46
    go_wp2
    go_ret
    exact ⟨rfl, rfl⟩


theorem pw_zero (a : Nat) : pw a 0 = 1 := by unfold pw; rw [Nat.pow_zero]
theorem pw_odd (a n : Nat) (h : n % 2 = 1) : pw a n = pw a (n / 2) * pw a (n / 2) % 1543 * a % 1543 := by
  unfold pw
  rw [Nat.mod_mul_mod, Nat.mul_assoc, Nat.mod_mul_mod, Nat.mul_left_comm, Nat.mod_mul_mod, ← Nat.mul_assoc, ← Nat.pow_add, ← Nat.pow_succ]
  congr 2; omega
theorem pw_even (a n : Nat) (h : n % 2 = 0) : pw a n = pw a (n / 2) * pw a (n / 2) % 1543 := by
  unfold pw
  rw [← Nat.mul_mod, ← Nat.pow_add]
  congr 2; omega
theorem pwI_nat (a n : Nat) : pwI a n = (pw a n : Int) := rfl

set_option maxHeartbeats 1000000 in
theorem rPower_nat (a : Nat) (ha : a < 1543) : ∀ (n : Nat), n ≤ 100000 → ∀ w : World,
    Calls Tryz.prog 61 #[.int .i64 a, .int .i64 n] w fun e w' => e = .returned (.int .i64 (pw a n : Nat)) ∧ w = w' := by
  intro n
  induction n using Nat.strongRecOn with
  | _ n ih =>
    intro hn w
    by_cases h0 : n = 0
    · subst h0
      have HE := Lib.hid (pw_zero a)
      clear ih
      go_enter Tryz.func61, Tryz.ntmps61
      go_wp2
      go_ret
      exact ⟨by rw [HE.out]; rfl, rfl⟩
    · have hi := ih (n / 2) (by omega) (by omega)
      have HI := Lib.hid hi
      have t0 : ((n : Int) == 0) = false := beq_eq_false_iff_ne.2 (by omega)
      have hq := pw_lt a (n / 2)
      rcases Nat.mod_two_eq_zero_or_one n with hm | hm
      · have t1 : ((n : Int) % 2 == 1) = false := beq_eq_false_iff_ne.2 (by omega)
        have HE := Lib.hid (pw_even a n hm)
        clear ih hi hm h0
        obtain ⟨q, hqe⟩ : ∃ q, pw a (n / 2) = q := ⟨_, rfl⟩
        rw [hqe] at hq HE
        have HQ := Lib.hid hqe
        clear hqe
        obtain ⟨b1, b2⟩ := mul_bd hq hq
        go_enter Tryz.func61, Tryz.ntmps61
        go_wp2_with fail
        rw [show ((n : Int) / 2) = ((n / 2 : Nat) : Int) from by omega]
        refine (HI.out _).mono ?_
        rintro e w' ⟨rfl, rfl⟩
        rw [HQ.out]
        go_wp2_with fail
        go_ret
        exact ⟨i64_lit (by rw [HE.out]; simp), rfl⟩
      · have t1 : ((n : Int) % 2 == 1) = true := beq_iff_eq.2 (by omega)
        have HE := Lib.hid (pw_odd a n hm)
        clear ih hi hm h0
        obtain ⟨q, hqe⟩ : ∃ q, pw a (n / 2) = q := ⟨_, rfl⟩
        rw [hqe] at hq HE
        have HQ := Lib.hid hqe
        clear hqe
        obtain ⟨b1, b2⟩ := mul_bd hq hq
        have hq2 : q * q % 1543 < 1543 := Nat.mod_lt _ (by decide)
        obtain ⟨b3, b4⟩ := mul_bd hq2 ha
        rw [Int.natCast_emod, Int.natCast_mul] at b3 b4
        have b5 : (0 : Int) ≤ (q : Int) * q % 1543 * a := b3
        have b6 : (q : Int) * q % 1543 * a ≤ 2400000 := b4
        clear b3 b4
        go_enter Tryz.func61, Tryz.ntmps61
        go_wp2_with fail
        rw [show ((n : Int) / 2) = ((n / 2 : Nat) : Int) from by omega]
        refine (HI.out _).mono ?_
        rintro e w' ⟨rfl, rfl⟩
        rw [HQ.out]
        go_wp2_with fail
        go_ret
        exact ⟨i64_lit (by rw [HE.out, Int.natCast_emod, Int.natCast_mul, Int.natCast_emod, Int.natCast_mul]; rfl), rfl⟩

theorem rPower_any (a n : Int) (w : World) (h0 : 0 ≤ a) (ha : a ≤ 1542) (h1 : 0 ≤ n) (hn : n ≤ 100000) :
    Calls Tryz.prog 61 #[.int .i64 a, .int .i64 n] w fun e w' => e = .returned (.int .i64 (pwI a n)) ∧ w = w' := by
  obtain ⟨a, rfl⟩ := Int.eq_ofNat_of_zero_le h0
  obtain ⟨n, rfl⟩ := Int.eq_ofNat_of_zero_le h1
  exact rPower_nat a (by omega) n (by omega) w


end Go.Proofs.YtflhbnaocognlaaGreatDoor
