/- The walks of the reference: banks, masks, digests. -/
import Derived.Test.YtdjeajhkpkphbaaRows
import Derived.Test.YtdjeajhkpkphbaaNum
import Derived.Test.YtdjeajhkpkphbaaBase
import Derived.Test.YtdjeajhkpkphbaaMeas
import Derived.Test.YtdjeajhkpkphbaaApp
import Derived.Test.YtdjeajhkpkphbaaBank
import Derived.Test.YtdjeajhkpkphbaaRefA
import Derived.WalkKit
import Derived.Lib.Hide
namespace Go.Proofs.Ytdjeajhkpkphbaa
open Go.RowKit


theorem bit_nat (M k : Nat) : (((M / 2 ^ k : Nat) : Int) % 2 == 1) = bitM M k := by
  unfold bitM
  rw [Int.natCast_ediv, Int.natCast_pow]; rfl

set_option maxHeartbeats 400000 in
theorem rAsks_nat (M k : Nat) (w : World) (h1 : M ≤ 255) (hk : k ≤ 1000) :
    Calls Try.prog 12 #[.int .i64 M, .int .i64 k] w fun e w' => e = .returned (.bool (bitM M k)) ∧ w = w' := by
  have HB := Lib.hid (bit_nat M k)
  go_enter Try.func12, Try.ntmps12
  go_wp2
  go_loop [0, 5] (fun m i => ∃ (j n : Nat), j ≤ k ∧ n ≤ 255 ∧ Hid (n = M / 2 ^ j) ∧ i = .int .i64 j ∧ m = .int .i64 n) (fun _ i => k - (intOf i).toNat)
  case atStart => exact ⟨0, M, Nat.zero_le _, h1, Lib.hid (by simp), rfl, rfl⟩
  case round =>
    obtain ⟨j, n, hj, hn, HN, rfl, rfl⟩ := hrel
    by_cases hlt : j < k
    · go_wp2
      go_round
      case rel => exact ⟨j + 1, n / 2, by omega, by omega, Lib.hid (by rw [HN.out, Nat.div_div_eq_div_mul, Nat.pow_succ]), by go_num, i64_eq (by omega)⟩
      case measure => simp [intOf]; omega
    · obtain rfl : j = k := by omega
      go_wp2
      go_ret
      exact ⟨by rw [← HB.out, HN.out]; rfl, rfl⟩

theorem rAsks_any (m i : Int) (w : World) (h0 : 0 ≤ m) (h1 : m ≤ 255) (i0 : 0 ≤ i) (i1 : i ≤ 1000) :
    Calls Try.prog 12 #[.int .i64 m, .int .i64 i] w fun e w' => e = .returned (.bool (bitM m i.toNat)) ∧ w = w' := by
  obtain ⟨m, rfl⟩ := Int.eq_ofNat_of_zero_le h0
  obtain ⟨i, rfl⟩ := Int.eq_ofNat_of_zero_le i0
  exact rAsks_nat m i w (by omega) (by omega)




end Go.Proofs.Ytdjeajhkpkphbaa
