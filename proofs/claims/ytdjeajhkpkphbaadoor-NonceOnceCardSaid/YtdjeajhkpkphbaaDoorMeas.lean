/- The walks of package measure. -/
import Derived.Test.YtdjeajhkpkphbaaDoorRows
import Derived.Test.YtdjeajhkpkphbaaDoorNum
import Derived.Test.YtdjeajhkpkphbaaDoorBase
import Derived.WalkKit
import Derived.WalkSpells
import Derived.WalkLawsBesides
import Derived.Lib.Hide
import Derived.Laws.IdiomStrings
namespace Go.Proofs.YtdjeajhkpkphbaaDoor
open Go.RowKit


theorem i64_lit {a b : Int} (h : a = b) : Ending.returned (.int .i64 a) = .returned (.int .i64 b) := by rw [h]

set_option maxHeartbeats 400000 in
theorem mIs_any (n : Int) (w : World) :
    Calls Tryd.prog 44 #[.int .i64 n] w fun e w' => e = .returned (.bool (okM n)) ∧ w = w' := by
  by_cases h1 : 0 ≤ n
  · by_cases h2 : n < 1000003
    · have h : okM n = true := okM_mk h1 (by omega)
      rw [h]
      go_enter Tryd.func44, Tryd.ntmps44
      go_wp2
      go_ret
      exact ⟨rfl, rfl⟩
    · have h : okM n = false := decide_eq_false (by omega)
      rw [h]
      go_enter Tryd.func44, Tryd.ntmps44
      go_wp2
      go_ret
      exact ⟨rfl, rfl⟩
  · have h : okM n = false := decide_eq_false (by omega)
    rw [h]
    go_enter Tryd.func44, Tryd.ntmps44
    go_wp2
    go_ret
    exact ⟨rfl, rfl⟩

set_option maxHeartbeats 400000 in
theorem pair_any (a b : Int) (w : World) (ha : okM a = true) (hb : okM b = true) :
    Calls Tryd.prog 46 #[.int .i64 a, .int .i64 b] w fun e w' => e = .returned (.int .i64 (pairM a b)) ∧ w = w' := by
  obtain ⟨a1, a2⟩ := okM_yes ha
  obtain ⟨b1, b2⟩ := okM_yes hb
  clear ha hb
  go_enter Tryd.func46, Tryd.ntmps46
  go_wp2
  go_ret
  exact ⟨rfl, rfl⟩


set_option maxHeartbeats 400000 in
theorem row_any (A : Option Addr) (c : Nat) (xs : List Int) (w : World) (hA : IntsAt w A xs) (hx : xs.all okM = true) (hl : xs.length ≤ 1000000) :
    Calls Tryd.prog 60 #[.slice A xs.length c] w fun e w' => e = .returned (.int .i64 (rowM xs)) ∧ w = w' := by
  have HA := Lib.hid hA
  have HX := Lib.hid hx
  clear hA hx
  go_enter Tryd.func60, Tryd.ntmps60
  go_wp2
  go_loop [3, 5, 8] (fun o _ i => ∃ k : Nat, k ≤ xs.length ∧ i = .int .i64 k ∧ o = .int .i64 (rowM (xs.take k))) (fun _ _ i => xs.length - (intOf i).toNat)
  case atStart => exact ⟨0, Nat.zero_le _, rfl, rfl⟩
  case round =>
    obtain ⟨k, hk, rfl, rfl⟩ := hrel
    by_cases hlt : k < xs.length
    · obtain ⟨b, off, rfl, _, hc⟩ := HA.out k hlt
      have hn := all_at HX.out k hlt
      have hr := rowM_ok (xs.take k)
      have HS := Lib.hid (rowM_step xs k hlt)
      obtain ⟨x, hxe⟩ : ∃ x, x = xs.getD k 0 := ⟨_, rfl⟩
      rw [← hxe] at hc hn
      have HV := Lib.hid hxe
      clear hxe
      go_wp2_with (go_at_call 46; refine (pair_any _ _ _ (by assumption) (by assumption)).mono ?_; rintro e w' ⟨rfl, rfl⟩)
      go_round
      case rel => exact ⟨k + 1, by omega, by go_num, by rw [HS.out, ← HV.out]⟩
      case measure => simp [intOf]; omega
    · go_wp2
      go_ret
      exact ⟨i64_lit (by rw [List.take_of_length_le (by omega)]), rfl⟩





end Go.Proofs.YtdjeajhkpkphbaaDoor
