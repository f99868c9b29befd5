/- The walks of the reference: measures and challenges. -/
import Derived.Test.YtalgnjdnanlidaaDoorRows
import Derived.Test.YtalgnjdnanlidaaDoorNum
import Derived.Test.YtalgnjdnanlidaaDoorBase
import Derived.Test.YtalgnjdnanlidaaDoorMeas
import Derived.WalkKit
import Derived.Lib.Hide
namespace Go.Proofs.YtalgnjdnanlidaaDoor
open Go.RowKit




set_option maxHeartbeats 400000 in
theorem rText_any (s : ByteArray) (w : World) (hs : s.size ≤ 1000000) :
    Calls Tryd.prog 17 #[.string s] w fun e w' => e = .returned (.int .i64 (textM s.data.toList)) ∧ w = w' := by
  go_enter Tryd.func17, Tryd.ntmps17
  go_wp2
  go_loop [3, 4] (fun o i => ∃ k : Nat, k ≤ s.size ∧ i = .int .i64 k ∧ o = .int .i64 (textM (s.data.toList.take k))) (fun _ i => s.size - (intOf i).toNat)
  case atStart => exact ⟨0, Nat.zero_le _, rfl, rfl⟩
  case round =>
    obtain ⟨k, hk, rfl, rfl⟩ := hrel
    by_cases hlt : k < s.size
    · obtain ⟨r1, r2⟩ := okM_yes (textM_ok (s.data.toList.take k))
      have hg : s.data.toList.getD k 0 = s[k] := by
        rw [List.getD_eq_getElem?_getD, List.getElem?_eq_getElem (by simpa using hlt)]; rfl
      have HS := Lib.hid (textM_step s.data.toList k (by simpa using hlt))
      have HG := Lib.hid hg
      clear hg
      have b2 : (s[k].toNat : Int) ≤ 255 := by have := s[k].toNat_lt; omega
      go_wp2
      go_round
      case rel => exact ⟨k + 1, by omega, by go_num, by rw [HS.out, stepT, HG.out]⟩
      case measure => simp [intOf]; omega
    · go_wp2
      go_ret
      exact ⟨i64_lit (by rw [List.take_of_length_le (by simp; omega)]), rfl⟩

end Go.Proofs.YtalgnjdnanlidaaDoor
