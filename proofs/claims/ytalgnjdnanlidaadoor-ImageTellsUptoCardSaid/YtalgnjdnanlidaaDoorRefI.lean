/- The reference's Letters, Name, Image. -/
import Derived.Test.YtalgnjdnanlidaaDoorImg
import Derived.WalkKit
import Derived.WalkSpells
import Derived.WalkLawsBesides
import Derived.Lib.Hide
namespace Go.Proofs.YtalgnjdnanlidaaDoor
open Go.RowKit
set_option maxRecDepth 100000
set_option linter.unusedSimpArgs false

theorem all_take_step {xs : List Int} {pr : Int → Bool} (k : Nat) (h : k < xs.length) (h1 : (xs.take k).all pr = true) (h2 : pr (xs.getD k 0) = true) : (xs.take (k + 1)).all pr = true := by
  rw [List.take_succ_eq_append_getElem h, List.all_append, h1]
  rw [List.getD_eq_getElem?_getD, List.getElem?_eq_getElem h] at h2
  simpa using h2
theorem all_at_no {xs : List Int} {pr : Int → Bool} (k : Nat) (h : k < xs.length) (h2 : pr (xs.getD k 0) = false) : xs.all pr = false := by
  rw [List.getD_eq_getElem?_getD, List.getElem?_eq_getElem h] at h2
  rw [List.all_eq_false]
  exact ⟨xs[k], List.getElem_mem h, by simpa using h2⟩

set_option maxHeartbeats 1000000 in
theorem rLetters_any (s : ByteArray) (w : World) (hs : s.size ≤ 9000000000000000000) :
    Calls Tryd.prog 33 #[.string s] w fun e w' => e = .returned (.bool (lowS s)) ∧ w = w' := by
  go_enter Tryd.func33, Tryd.ntmps33
  go_wp2
  go_loop [3] (fun i => ∃ k : Nat, k ≤ s.size ∧ i = .int .i64 k ∧ Hid (((bytesI s).take k).all lowB = true)) (fun i => s.size - (intOf i).toNat)
  case atStart => exact ⟨0, Nat.zero_le _, rfl, Lib.hid (by simp)⟩
  case round =>
    obtain ⟨k, hk, rfl, HP⟩ := hrel
    by_cases hlt : k < s.size
    · have hlt' : k < (bytesI s).length := by rw [bytesI_len]; exact hlt
      have hg : (bytesI s).getD k 0 = ((s[k]).toNat : Int) := by
        rw [bytesI_at s k hlt, List.getD_eq_getElem?_getD, List.getElem?_eq_getElem (by simpa using hlt)]; rfl
      by_cases h1 : ((s[k]).toNat : Int) < 97
      · have HN : Hid (lowS s = false) := Lib.hid (all_at_no (pr := lowB) k hlt' (by rw [hg]; exact decide_eq_false (by omega)))
        clear hg hlt'
        go_wp2
        go_ret
        exact ⟨by rw [HN.out]; first | rfl | (show Ending.returned (.bool (decide ((s.size : Int) ≤ 8))) = _; rw [decide_eq_false (by omega)]), rfl⟩
      · by_cases h2 : 122 < ((s[k]).toNat : Int)
        · have HN : Hid (lowS s = false) := Lib.hid (all_at_no (pr := lowB) k hlt' (by rw [hg]; exact decide_eq_false (by omega)))
          clear hg hlt'
          go_wp2
          go_ret
          exact ⟨by rw [HN.out]; first | rfl | (show Ending.returned (.bool (decide ((s.size : Int) ≤ 8))) = _; rw [decide_eq_false (by omega)]), rfl⟩
        · have HS : Hid (((bytesI s).take (k + 1)).all lowB = true) := Lib.hid (all_take_step (pr := lowB) k hlt' HP.out (by rw [hg]; exact decide_eq_true (by omega)))
          clear hg hlt'
          go_wp2
          go_round
          case rel => exact ⟨k + 1, by omega, by go_num, HS⟩
          case measure => simp [intOf]; omega
    · have HN : Hid (lowS s = true) := Lib.hid (by have := HP.out; rwa [List.take_of_length_le (by rw [bytesI_len]; omega)] at this)
      go_wp2
      go_ret
      exact ⟨by rw [HN.out]; first | rfl | (show Ending.returned (.bool (decide ((s.size : Int) ≤ 8))) = _; rw [decide_eq_false (by omega)]), rfl⟩


set_option maxHeartbeats 1000000 in
theorem rImage_any (n : ByteArray) (v : Int) (c : ByteArray) (w : World) (hn : n.size ≤ 9000000000000000000) (hc : c.size ≤ 9000000000000000000) :
    Calls Tryd.prog 13 #[.agg #[.string n, .int .i64 v, .string c]] w fun e w' => e = .returned (.int .i64 (imgE n v c)) ∧ Below w.heap.size w w' := by
  cases h1 : lowS n
  all_goals cases h2 : lowS c
  all_goals
    by_cases h0 : n.size = 0
    · have HE : Hid (imgE n v c = 3) := Lib.hid (by unfold imgE; rw [if_pos (Or.inl h0)])
      have e0 := isEmpty_of h0
      clear h0
      go_enter Tryd.func13, Tryd.ntmps13
      go_wp2_with (go_at_call 33; refine (rLetters_any _ _ (by first | exact hn | exact hc)).mono ?_; rintro e w1 ⟨rfl, rfl⟩; first | rw [h1] | rw [h2])
      go_ret
      exact ⟨by rw [HE.out]; rfl, (by repeat (first | (with_reducible exact grow_refl _) | (with_reducible assumption) | (with_reducible refine grow_alloc ?_ _) | (with_reducible refine grow_set ?_ (by first | exact Nat.le_refl _ | (simp; done) | (simp; omega) | omega) _) | (with_reducible refine grow_drewN ?_ _) | (with_reducible refine grow_drew ?_) | (with_reducible refine grow_step ?_ (by assumption)) | (with_reducible refine grow_base ?_ (by assumption))))⟩
  all_goals have e0 := isEmpty_no h0
  iterate 3
    focus
      have HE : Hid (imgE n v c = 3) := Lib.hid (by unfold imgE; rw [if_pos (by simp [h1, h2])])
      clear h0
      go_enter Tryd.func13, Tryd.ntmps13
      go_wp2_with (go_at_call 33; refine (rLetters_any _ _ (by first | exact hn | exact hc)).mono ?_; rintro e w1 ⟨rfl, rfl⟩; first | rw [h1] | rw [h2])
      go_ret
      exact ⟨by rw [HE.out]; rfl, (by repeat (first | (with_reducible exact grow_refl _) | (with_reducible assumption) | (with_reducible refine grow_alloc ?_ _) | (with_reducible refine grow_set ?_ (by first | exact Nat.le_refl _ | (simp; done) | (simp; omega) | omega) _) | (with_reducible refine grow_drewN ?_ _) | (with_reducible refine grow_drew ?_) | (with_reducible refine grow_step ?_ (by assumption)) | (with_reducible refine grow_base ?_ (by assumption))))⟩
  have hne : ¬ (n.size = 0 ∨ lowS n = false ∨ lowS c = false) := by rw [h1, h2]; simpa using h0
  by_cases h3 : 8 < n.size
  · have HE : Hid (imgE n v c = 4) := Lib.hid (by unfold imgE; rw [if_neg hne, if_pos (Or.inl h3)])
    have g3 : (n.size : Int) > 8 := by omega
    clear h0 hne
    go_enter Tryd.func13, Tryd.ntmps13
    go_wp2_with (go_at_call 33; refine (rLetters_any _ _ (by first | exact hn | exact hc)).mono ?_; rintro e w1 ⟨rfl, rfl⟩; first | rw [h1] | rw [h2])
    go_ret
    exact ⟨by rw [HE.out]; rfl, (by repeat (first | (with_reducible exact grow_refl _) | (with_reducible assumption) | (with_reducible refine grow_alloc ?_ _) | (with_reducible refine grow_set ?_ (by first | exact Nat.le_refl _ | (simp; done) | (simp; omega) | omega) _) | (with_reducible refine grow_drewN ?_ _) | (with_reducible refine grow_drew ?_) | (with_reducible refine grow_step ?_ (by assumption)) | (with_reducible refine grow_base ?_ (by assumption))))⟩
  by_cases h4 : 8 < c.size
  · have HE : Hid (imgE n v c = 4) := Lib.hid (by unfold imgE; rw [if_neg hne, if_pos (Or.inr h4)])
    clear h0 hne
    go_enter Tryd.func13, Tryd.ntmps13
    go_wp2_with (go_at_call 33; refine (rLetters_any _ _ (by first | exact hn | exact hc)).mono ?_; rintro e w1 ⟨rfl, rfl⟩; first | rw [h1] | rw [h2])
    go_ret
    exact ⟨by rw [HE.out]; rfl, (by repeat (first | (with_reducible exact grow_refl _) | (with_reducible assumption) | (with_reducible refine grow_alloc ?_ _) | (with_reducible refine grow_set ?_ (by first | exact Nat.le_refl _ | (simp; done) | (simp; omega) | omega) _) | (with_reducible refine grow_drewN ?_ _) | (with_reducible refine grow_drew ?_) | (with_reducible refine grow_step ?_ (by assumption)) | (with_reducible refine grow_base ?_ (by assumption))))⟩
  have hn4 : ¬ (8 < n.size ∨ 8 < c.size) := by omega
  by_cases h5 : v < 1
  · have HE : Hid (imgE n v c = 1) := Lib.hid (by unfold imgE; rw [if_neg hne, if_neg hn4, if_pos (Or.inl h5)])
    clear h0 hne hn4
    go_enter Tryd.func13, Tryd.ntmps13
    go_wp2_with (go_at_call 33; refine (rLetters_any _ _ (by first | exact hn | exact hc)).mono ?_; rintro e w1 ⟨rfl, rfl⟩; first | rw [h1] | rw [h2])
    go_ret
    exact ⟨by rw [HE.out]; rfl, (by repeat (first | (with_reducible exact grow_refl _) | (with_reducible assumption) | (with_reducible refine grow_alloc ?_ _) | (with_reducible refine grow_set ?_ (by first | exact Nat.le_refl _ | (simp; done) | (simp; omega) | omega) _) | (with_reducible refine grow_drewN ?_ _) | (with_reducible refine grow_drew ?_) | (with_reducible refine grow_step ?_ (by assumption)) | (with_reducible refine grow_base ?_ (by assumption))))⟩
  by_cases h6 : 1000 < v
  · have HE : Hid (imgE n v c = 1) := Lib.hid (by unfold imgE; rw [if_neg hne, if_neg hn4, if_pos (Or.inr h6)])
    clear h0 hne hn4
    go_enter Tryd.func13, Tryd.ntmps13
    go_wp2_with (go_at_call 33; refine (rLetters_any _ _ (by first | exact hn | exact hc)).mono ?_; rintro e w1 ⟨rfl, rfl⟩; first | rw [h1] | rw [h2])
    go_ret
    exact ⟨by rw [HE.out]; rfl, (by repeat (first | (with_reducible exact grow_refl _) | (with_reducible assumption) | (with_reducible refine grow_alloc ?_ _) | (with_reducible refine grow_set ?_ (by first | exact Nat.le_refl _ | (simp; done) | (simp; omega) | omega) _) | (with_reducible refine grow_drewN ?_ _) | (with_reducible refine grow_drew ?_) | (with_reducible refine grow_step ?_ (by assumption)) | (with_reducible refine grow_base ?_ (by assumption))))⟩
  · have HE : Hid (imgE n v c = 0) := Lib.hid (by unfold imgE; rw [if_neg hne, if_neg hn4, if_neg (by omega)])
    clear h0 hne hn4
    go_enter Tryd.func13, Tryd.ntmps13
    go_wp2_with (go_at_call 33; refine (rLetters_any _ _ (by first | exact hn | exact hc)).mono ?_; rintro e w1 ⟨rfl, rfl⟩; first | rw [h1] | rw [h2])
    go_ret
    exact ⟨by rw [HE.out]; rfl, (by repeat (first | (with_reducible exact grow_refl _) | (with_reducible assumption) | (with_reducible refine grow_alloc ?_ _) | (with_reducible refine grow_set ?_ (by first | exact Nat.le_refl _ | (simp; done) | (simp; omega) | omega) _) | (with_reducible refine grow_drewN ?_ _) | (with_reducible refine grow_drew ?_) | (with_reducible refine grow_step ?_ (by assumption)) | (with_reducible refine grow_base ?_ (by assumption))))⟩

end Go.Proofs.YtalgnjdnanlidaaDoor
