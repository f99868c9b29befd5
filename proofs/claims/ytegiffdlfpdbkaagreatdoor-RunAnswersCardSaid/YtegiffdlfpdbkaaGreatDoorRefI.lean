/- The reference's Letters, Name, Image. -/
import Derived.Test.YtegiffdlfpdbkaaGreatDoorImg
import Derived.WalkKit
import Derived.WalkSpells
import Derived.WalkLawsBesides
import Derived.Lib.Hide
namespace Go.Proofs.YtegiffdlfpdbkaaGreatDoor
open Go.RowKit
set_option maxRecDepth 100000
set_option linter.unusedSimpArgs false

theorem all_take_step {xs : List Int} {pr : Int → Bool} (k : Nat) (h : k < xs.length) (h1 : (xs.take k).all pr = true) (h2 : pr (xs.getD k 0) = true) : (xs.take (k + 1)).all pr = true := by
  rw [List.take_succ_eq_append_getElem h, List.all_append, h1]
  rw [List.getD_eq_getElem?_getD, List.getElem?_eq_getElem h] at h2
  simpa using h2
theorem all_at_no {xs : List Int} {pr : Int → Bool} (k : Nat) (h : k < xs.length) (h2 : pr (xs.getD k 0) = false) : xs.all pr = false := by
  rw [List.getD_eq_getElem?_getD, List.getElem?_eq_getElem h] at h2
  rw [List.all_eq_false]
  exact ⟨xs[k], List.getElem_mem h, by simpa using h2⟩

set_option maxHeartbeats 1000000 in
theorem rLetters_any (s : ByteArray) (w : World) (hs : s.size ≤ 9000000000000000000) :
    Calls Tryz.prog 55 #[.string s] w fun e w' => e = .returned (.bool (lowS s)) ∧ w = w' := by
  go_enter Tryz.func55, Tryz.ntmps55
  go_wp2
  go_loop [3] (fun i => ∃ k : Nat, k ≤ s.size ∧ i = .int .i64 k ∧ Hid (((bytesI s).take k).all lowB = true)) (fun i => s.size - (intOf i).toNat)
  case atStart => exact ⟨0, Nat.zero_le _, rfl, Lib.hid (by simp)⟩
  case round =>
    obtain ⟨k, hk, rfl, HP⟩ := hrel
    by_cases hlt : k < s.size
    · have hlt' : k < (bytesI s).length := by rw [bytesI_len]; exact hlt
      have hg : (bytesI s).getD k 0 = ((s[k]).toNat : Int) := by
        rw [bytesI_at s k hlt, List.getD_eq_getElem?_getD, List.getElem?_eq_getElem (by simpa using hlt)]; rfl
      by_cases h1 : ((s[k]).toNat : Int) < 97
      · have HN : Hid (lowS s = false) := Lib.hid (all_at_no (pr := lowB) k hlt' (by rw [hg]; exact decide_eq_false (by omega)))
        clear hg hlt'
        go_wp2
        go_ret
        exact ⟨by rw [HN.out]; first | rfl | (show Ending.returned (.bool (decide ((s.size : Int) ≤ 8))) = _; rw [decide_eq_false (by omega)]), rfl⟩
      · by_cases h2 : 122 < ((s[k]).toNat : Int)
        · have HN : Hid (lowS s = false) := Lib.hid (all_at_no (pr := lowB) k hlt' (by rw [hg]; exact decide_eq_false (by omega)))
          clear hg hlt'
          go_wp2
          go_ret
          exact ⟨by rw [HN.out]; first | rfl | (show Ending.returned (.bool (decide ((s.size : Int) ≤ 8))) = _; rw [decide_eq_false (by omega)]), rfl⟩
        · have HS : Hid (((bytesI s).take (k + 1)).all lowB = true) := Lib.hid (all_take_step (pr := lowB) k hlt' HP.out (by rw [hg]; exact decide_eq_true (by omega)))
          clear hg hlt'
          go_wp2
          go_round
          case rel => exact ⟨k + 1, by omega, by go_num, HS⟩
          case measure => simp [intOf]; omega
    · have HN : Hid (lowS s = true) := Lib.hid (by have := HP.out; rwa [List.take_of_length_le (by rw [bytesI_len]; omega)] at this)
      go_wp2
      go_ret
      exact ⟨by rw [HN.out]; first | rfl | (show Ending.returned (.bool (decide ((s.size : Int) ≤ 8))) = _; rw [decide_eq_false (by omega)]), rfl⟩

set_option maxHeartbeats 1000000 in
theorem rName_any (s : ByteArray) (w : World) (hs : s.size ≤ 9000000000000000000) :
    Calls Tryz.prog 39 #[.string s] w fun e w' => e = .returned (.bool (okName s)) ∧ w = w' := by
  cases h1 : lowS s
  · have HN : Hid (okName s = false) := Lib.hid (by unfold okName; rw [h1]; rfl)
    go_enter Tryz.func39, Tryz.ntmps39
    go_wp2_with (go_at_call 55; refine (rLetters_any s _ hs).mono ?_; rintro e w1 ⟨rfl, rfl⟩; rw [h1])
    go_ret
    exact ⟨by rw [HN.out]; first | rfl | (show Ending.returned (.bool (decide ((s.size : Int) ≤ 8))) = _; rw [decide_eq_false (by omega)]), rfl⟩
  · by_cases h2 : s.size < 1
    · have HN : Hid (okName s = false) := Lib.hid (by unfold okName; rw [decide_eq_false (by omega), Bool.and_false])
      have g : ¬ ((s.size : Int) ≥ 1) := by omega
      go_enter Tryz.func39, Tryz.ntmps39
      go_wp2_with (go_at_call 55; refine (rLetters_any s _ hs).mono ?_; rintro e w1 ⟨rfl, rfl⟩; rw [h1])
      go_ret
      exact ⟨by rw [HN.out]; first | rfl | (show Ending.returned (.bool (decide ((s.size : Int) ≤ 8))) = _; rw [decide_eq_false (by omega)]), rfl⟩
    · by_cases h3 : 8 < s.size
      · have HN : Hid (okName s = false) := Lib.hid (by unfold okName; rw [decide_eq_false (by omega), Bool.and_false])
        have g : (s.size : Int) ≥ 1 := by omega
        have g2 : ¬ ((s.size : Int) ≤ 8) := by omega
        go_enter Tryz.func39, Tryz.ntmps39
        go_wp2_with (go_at_call 55; refine (rLetters_any s _ hs).mono ?_; rintro e w1 ⟨rfl, rfl⟩; rw [h1])
        go_ret
        exact ⟨by rw [HN.out]; first | rfl | (show Ending.returned (.bool (decide ((s.size : Int) ≤ 8))) = _; rw [decide_eq_false (by omega)]), rfl⟩
      · have HN : Hid (okName s = true) := Lib.hid (by unfold okName; rw [h1, decide_eq_true (by omega)]; rfl)
        have g : (s.size : Int) ≥ 1 := by omega
        have g2 : (s.size : Int) ≤ 8 := by omega
        go_enter Tryz.func39, Tryz.ntmps39
        go_wp2_with (go_at_call 55; refine (rLetters_any s _ hs).mono ?_; rintro e w1 ⟨rfl, rfl⟩; rw [h1])
        go_ret
        exact ⟨by rw [HN.out]; first | rfl | (show Ending.returned (.bool (decide ((s.size : Int) ≤ 8))) = _; rw [decide_eq_false (by omega)]), rfl⟩


end Go.Proofs.YtegiffdlfpdbkaaGreatDoor
