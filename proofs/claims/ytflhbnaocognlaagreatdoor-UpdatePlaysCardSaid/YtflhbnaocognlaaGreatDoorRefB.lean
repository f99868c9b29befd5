/- The walks of the reference: banks, masks, digests. -/
import Derived.Test.YtflhbnaocognlaaGreatDoorRows
import Derived.Test.YtflhbnaocognlaaGreatDoorNum
import Derived.Test.YtflhbnaocognlaaGreatDoorBase
import Derived.Test.YtflhbnaocognlaaGreatDoorMeas
import Derived.Test.YtflhbnaocognlaaGreatDoorApp
import Derived.Test.YtflhbnaocognlaaGreatDoorBank
import Derived.Test.YtflhbnaocognlaaGreatDoorRefA
import Derived.WalkKit
import Derived.Lib.Hide
namespace Go.Proofs.YtflhbnaocognlaaGreatDoor
open Go.RowKit

set_option maxHeartbeats 400000 in
theorem rIs_any (n : Int) (w : World) :
    Calls Tryz.prog 59 #[.int .i64 n] w fun e w' => e = .returned (.bool (okM n)) ∧ w = w' := by
  by_cases h1 : 0 ≤ n
  · by_cases h2 : n < 1000003
    · have h : okM n = true := okM_mk h1 (by omega)
      rw [h]
      go_enter Tryz.func59, Tryz.ntmps59
      go_wp2
      go_ret
      exact ⟨rfl, rfl⟩
    · have h : okM n = false := decide_eq_false (by omega)
      rw [h]
      go_enter Tryz.func59, Tryz.ntmps59
      go_wp2
      go_ret
      exact ⟨rfl, rfl⟩
  · have h : okM n = false := decide_eq_false (by omega)
    rw [h]
    go_enter Tryz.func59, Tryz.ntmps59
    go_wp2
    go_ret
    exact ⟨rfl, rfl⟩

theorem bit_nat (M k : Nat) : (((M / 2 ^ k : Nat) : Int) % 2 == 1) = bitM M k := by
  unfold bitM
  rw [Int.natCast_ediv, Int.natCast_pow]; rfl






end Go.Proofs.YtflhbnaocognlaaGreatDoor
