/- The walks of package key. -/
import Derived.Test.YtfklbifgjpocnaaRows
import Derived.Test.YtfklbifgjpocnaaNum
import Derived.Test.YtfklbifgjpocnaaBase
import Derived.WalkKit
import Derived.WalkSpells
import Derived.WalkLawsBesides
import Derived.Lib.Hide
namespace Go.Proofs.Ytfklbifgjpocnaa
open Go.RowKit

set_option maxHeartbeats 400000 in
theorem power_nat (a n : Nat) (w : World) (ha : a < 1543) (hn : n ≤ 100000) :
    Calls Try.prog 48 #[.int .i64 a, .int .i64 n] w fun e w' => e = .returned (.int .i64 (pw a n : Nat)) ∧ w = w' := by
  go_enter Try.func48, Try.ntmps48
  go_wp2
  go_loop [0, 1, 5] (fun x y z => ∃ a' n' o : Nat, PowInv a n o a' n' ∧ x = .int .i64 a' ∧ y = .int .i64 n' ∧ z = .int .i64 o) (fun _ y _ => (intOf y).toNat)
  case atStart => exact ⟨a, n, 1, powInv_start ha, rfl, rfl, rfl⟩
  case round =>
    obtain ⟨a', n', o, hinv, rfl, rfl, rfl⟩ := hrel
    have HI : Hid (PowInv a n o a' n') := Lib.hid hinv
    obtain ⟨b1, b2, b3, _⟩ := hinv
    have b4 : n' ≤ 100000 := by omega
    obtain ⟨m1, m2⟩ := mul_bd b2 b2
    obtain ⟨m3, m4⟩ := mul_bd b1 b2
    clear ha hn
    by_cases h0 : 0 < n'
    · by_cases h1 : n' % 2 = 1
      · have t := and_one_yes n' (by omega) h1
        have H1 := Lib.hid h1; clear h1
        go_wp2
        go_round
        case rel => exact ⟨a' * a' % 1543, n' / 2, o * a' % 1543, powInv_odd HI.out H1.out, i64_eq (by simp), i64_eq (by simp), i64_eq (by simp)⟩
        case measure => simp [intOf]; omega
      · have h2 : n' % 2 = 0 := by omega
        have t := and_one_no n' (by omega) h2
        have H1 := Lib.hid h2; clear h2 h1
        go_wp2
        go_round
        case rel => exact ⟨a' * a' % 1543, n' / 2, o, powInv_even HI.out H1.out, i64_eq (by simp), i64_eq (by simp), rfl⟩
        case measure => simp [intOf]; omega
    · obtain rfl : n' = 0 := by omega
      go_wp2
      go_ret
      exact ⟨by rw [powInv_end HI.out]; rfl, rfl⟩

theorem power_any (a n : Int) (w : World) (h0 : 0 ≤ a) (ha : a ≤ 1542) (h1 : 0 ≤ n) (hn : n ≤ 100000) :
    Calls Try.prog 48 #[.int .i64 a, .int .i64 n] w fun e w' => e = .returned (.int .i64 (pwI a n)) ∧ w = w' := by
  obtain ⟨a, rfl⟩ := Int.eq_ofNat_of_zero_le h0
  obtain ⟨n, rfl⟩ := Int.eq_ofNat_of_zero_le h1
  exact power_nat a n w (by omega) (by omega)

theorem pwI_bd (a n : Int) : 0 ≤ pwI a n ∧ pwI a n ≤ 1542 := by
  have := pw_lt a.toNat n.toNat
  unfold pwI; omega

set_option maxHeartbeats 400000 in
theorem of_any (n : Int) (w : World) (h1 : 0 ≤ n) (hn : n ≤ 100000) :
    Calls Try.prog 41 #[.int .i64 n] w fun e w' => e = .returned (.int .i64 (pwI 64 n)) ∧ w = w' := by
  go_enter Try.func41, Try.ntmps41
  go_wp2_with (go_at_call 48; refine (power_any _ _ _ (by omega) (by omega) (by omega) (by omega)).mono ?_; rintro e w' ⟨rfl, rfl⟩)
  go_ret
  exact ⟨rfl, rfl⟩

def okSecret (x : Int) : Bool := decide (1 ≤ x ∧ x ≤ 256)
theorem okSecret_yes {x : Int} (h : okSecret x = true) : 1 ≤ x ∧ x ≤ 256 := of_decide_eq_true h
theorem okSecret_no {x : Int} (h : okSecret x = false) : x < 1 ∨ 256 < x := by have := of_decide_eq_false h; omega

set_option maxHeartbeats 400000 in
theorem secret_any (x : Int) (w : World) :
    Calls Try.prog 40 #[.int .i64 x] w fun e w' => e = .returned (.bool (okSecret x)) ∧ w = w' := by
  by_cases h1 : 1 ≤ x
  · by_cases h2 : x < 257
    · have h : okSecret x = true := decide_eq_true (by omega)
      rw [h]
      go_enter Try.func40, Try.ntmps40
      go_wp2
      go_ret
      exact ⟨rfl, rfl⟩
    · have h : okSecret x = false := decide_eq_false (by omega)
      rw [h]
      go_enter Try.func40, Try.ntmps40
      go_wp2
      go_ret
      exact ⟨rfl, rfl⟩
  · have h : okSecret x = false := decide_eq_false (by omega)
    rw [h]
    go_enter Try.func40, Try.ntmps40
    go_wp2
    go_ret
    exact ⟨rfl, rfl⟩

def pubE (x : Int) : Int := if okSecret x then 0 else 1
def pubM (x : Int) : Int := if okSecret x then pwI 64 x else 0

set_option maxHeartbeats 400000 in
theorem public_any (x : Int) (w : World) :
    Calls Try.prog 15 #[.int .i64 x] w fun e w' => e = .returned (.tuple #[.int .i64 (pubM x), errV (pubE x)]) ∧ w = w' := by
  by_cases h : okSecret x = true
  · have hb := okSecret_yes h
    have HE : Hid (pubE x = 0) := Lib.hid (by simp [pubE, h])
    have HM : Hid (pubM x = pwI 64 x) := Lib.hid (by simp [pubM, h])
    go_enter Try.func15, Try.ntmps15
    go_wp2_with (first | (go_at_call 40; refine (secret_any _ _).mono ?_; rintro e w' ⟨rfl, rfl⟩) | (go_at_call 41; refine (of_any _ _ (by omega) (by omega)).mono ?_; rintro e w' ⟨rfl, rfl⟩))
    go_ret2
    exact ⟨by rw [HE.out, HM.out]; rfl, rfl⟩
  · simp only [Bool.not_eq_true] at h
    have HE : Hid (pubE x = 1) := Lib.hid (by simp [pubE, h])
    have HM : Hid (pubM x = 0) := Lib.hid (by simp [pubM, h])
    go_enter Try.func15, Try.ntmps15
    go_wp2_with (first | (go_at_call 40; refine (secret_any _ _).mono ?_; rintro e w' ⟨rfl, rfl⟩))
    go_ret2
    exact ⟨by rw [HE.out, HM.out]; rfl, rfl⟩

end Go.Proofs.Ytfklbifgjpocnaa
