/- The walks of the reference: measures and challenges. -/
import Derived.Test.YtegiffdlfpdbkaaGreatDoorRows
import Derived.Test.YtegiffdlfpdbkaaGreatDoorNum
import Derived.Test.YtegiffdlfpdbkaaGreatDoorBase
import Derived.Test.YtegiffdlfpdbkaaGreatDoorMeas
import Derived.WalkKit
import Derived.Lib.Hide
namespace Go.Proofs.YtegiffdlfpdbkaaGreatDoor
open Go.RowKit

set_option maxHeartbeats 400000 in
theorem rTwo_any (a b : Int) (w : World) (ha : okM a = true) (hb : okM b = true) :
    Calls Tryz.prog 19 #[.int .i64 a, .int .i64 b] w fun e w' => e = .returned (.int .i64 (pairM a b)) ∧ w = w' := by
  obtain ⟨a1, a2⟩ := okM_yes ha
  obtain ⟨b1, b2⟩ := okM_yes hb
  clear ha hb
  go_enter Tryz.func19, Tryz.ntmps19
  go_wp2
  go_ret
  exact ⟨rfl, rfl⟩

set_option maxHeartbeats 400000 in
theorem rAll_any (A : Option Addr) (c : Nat) (xs : List Int) (w : World) (hA : IntsAt w A xs) (hx : xs.all okM = true) (hl : xs.length ≤ 1000000) :
    Calls Tryz.prog 38 #[.slice A xs.length c] w fun e w' => e = .returned (.int .i64 (rowM xs)) ∧ w = w' := by
  have HA := Lib.hid hA
  have HX := Lib.hid hx
  clear hA hx
  go_enter Tryz.func38, Tryz.ntmps38
  go_wp2
  go_loop [3, 4] (fun o i => ∃ k : Nat, k ≤ xs.length ∧ i = .int .i64 k ∧ o = .int .i64 (rowM (xs.take k))) (fun _ i => xs.length - (intOf i).toNat)
  case atStart => exact ⟨0, Nat.zero_le _, rfl, rfl⟩
  case round =>
    obtain ⟨k, hk, rfl, rfl⟩ := hrel
    by_cases hlt : k < xs.length
    · obtain ⟨b, off, rfl, _, hc⟩ := HA.out k hlt
      have hn := all_at HX.out k hlt
      have hr := rowM_ok (xs.take k)
      have HS := Lib.hid (rowM_step xs k hlt)
      obtain ⟨x, hxe⟩ : ∃ x, x = xs.getD k 0 := ⟨_, rfl⟩
      rw [← hxe] at hc hn
      have HV := Lib.hid hxe
      clear hxe
      go_wp2_with (go_at_call 19; refine (rTwo_any _ _ _ (by assumption) (by assumption)).mono ?_; rintro e w' ⟨rfl, rfl⟩)
      go_round
      case rel => exact ⟨k + 1, by omega, by go_num, by rw [HS.out, ← HV.out]⟩
      case measure => simp [intOf]; omega
    · go_wp2
      go_ret
      exact ⟨i64_lit (by rw [List.take_of_length_le (by omega)]), rfl⟩

set_option maxHeartbeats 400000 in
theorem rChallenge_any (p q m : Int) (w : World) (hp : okM p = true) (hq : okM q = true) (hm : okM m = true) :
    Calls Tryz.prog 41 #[.int .i64 p, .int .i64 q, .int .i64 m] w fun e w' => e = .returned (.int .i64 (chM p q m)) ∧ Below w.heap.size w w' := by
  have hx : [p, q, m].all okM = true := by simp [hp, hq, hm]
  obtain ⟨r1, r2⟩ := okM_yes (rowM_ok [p, q, m])
  have HX := Lib.hid hx
  clear hx hp hq hm
  go_enter Tryz.func41, Tryz.ntmps41
  go_wp2_with fail
  refine (rAll_any _ 3 [p, q, m] _ (IntsAt.new_ _ _ _ _) HX.out (by simp)).mono ?_
  rintro e w' ⟨rfl, rfl⟩
  go_wp2_with fail
  go_ret
  exact ⟨rfl, (by repeat (first | (with_reducible exact grow_refl _) | (with_reducible assumption) | (with_reducible refine grow_alloc ?_ _) | (with_reducible refine grow_set ?_ (by first | exact Nat.le_refl _ | (simp; done) | (simp; omega) | omega) _) | (with_reducible refine grow_drewN ?_ _) | (with_reducible refine grow_drew ?_) | (with_reducible refine grow_step ?_ (by assumption)) | (with_reducible refine grow_base ?_ (by assumption))))⟩

set_option maxHeartbeats 400000 in
theorem rText_any (s : ByteArray) (w : World) (hs : s.size ≤ 1000000) :
    Calls Tryz.prog 23 #[.string s] w fun e w' => e = .returned (.int .i64 (textM s.data.toList)) ∧ w = w' := by
  go_enter Tryz.func23, Tryz.ntmps23
  go_wp2
  go_loop [3, 4] (fun o i => ∃ k : Nat, k ≤ s.size ∧ i = .int .i64 k ∧ o = .int .i64 (textM (s.data.toList.take k))) (fun _ i => s.size - (intOf i).toNat)
  case atStart => exact ⟨0, Nat.zero_le _, rfl, rfl⟩
  case round =>
    obtain ⟨k, hk, rfl, rfl⟩ := hrel
    by_cases hlt : k < s.size
    · obtain ⟨r1, r2⟩ := okM_yes (textM_ok (s.data.toList.take k))
      have hg : s.data.toList.getD k 0 = s[k] := by
        rw [List.getD_eq_getElem?_getD, List.getElem?_eq_getElem (by simpa using hlt)]; rfl
      have HS := Lib.hid (textM_step s.data.toList k (by simpa using hlt))
      have HG := Lib.hid hg
      clear hg
      have b2 : (s[k].toNat : Int) ≤ 255 := by have := s[k].toNat_lt; omega
      go_wp2
      go_round
      case rel => exact ⟨k + 1, by omega, by go_num, by rw [HS.out, stepT, HG.out]⟩
      case measure => simp [intOf]; omega
    · go_wp2
      go_ret
      exact ⟨i64_lit (by rw [List.take_of_length_le (by simp; omega)]), rfl⟩

end Go.Proofs.YtegiffdlfpdbkaaGreatDoor
