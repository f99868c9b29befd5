/- The walks of package measure. -/
import Derived.Test.YtegiffdlfpdbkaaGreatDoorRows
import Derived.Test.YtegiffdlfpdbkaaGreatDoorNum
import Derived.Test.YtegiffdlfpdbkaaGreatDoorBase
import Derived.WalkKit
import Derived.WalkSpells
import Derived.WalkLawsBesides
import Derived.Lib.Hide
import Derived.Laws.IdiomStrings
namespace Go.Proofs.YtegiffdlfpdbkaaGreatDoor
open Go.RowKit


theorem i64_lit {a b : Int} (h : a = b) : Ending.returned (.int .i64 a) = .returned (.int .i64 b) := by rw [h]

set_option maxHeartbeats 400000 in
theorem mIs_any (n : Int) (w : World) :
    Calls Tryz.prog 85 #[.int .i64 n] w fun e w' => e = .returned (.bool (okM n)) ∧ w = w' := by
  by_cases h1 : 0 ≤ n
  · by_cases h2 : n < 1000003
    · have h : okM n = true := okM_mk h1 (by omega)
      rw [h]
      go_enter Tryz.func85, Tryz.ntmps85
      go_wp2
      go_ret
      exact ⟨rfl, rfl⟩
    · have h : okM n = false := decide_eq_false (by omega)
      rw [h]
      go_enter Tryz.func85, Tryz.ntmps85
      go_wp2
      go_ret
      exact ⟨rfl, rfl⟩
  · have h : okM n = false := decide_eq_false (by omega)
    rw [h]
    go_enter Tryz.func85, Tryz.ntmps85
    go_wp2
    go_ret
    exact ⟨rfl, rfl⟩

set_option maxHeartbeats 400000 in
theorem pair_any (a b : Int) (w : World) (ha : okM a = true) (hb : okM b = true) :
    Calls Tryz.prog 98 #[.int .i64 a, .int .i64 b] w fun e w' => e = .returned (.int .i64 (pairM a b)) ∧ w = w' := by
  obtain ⟨a1, a2⟩ := okM_yes ha
  obtain ⟨b1, b2⟩ := okM_yes hb
  clear ha hb
  go_enter Tryz.func98, Tryz.ntmps98
  go_wp2
  go_ret
  exact ⟨rfl, rfl⟩


set_option maxHeartbeats 400000 in
theorem row_any (A : Option Addr) (c : Nat) (xs : List Int) (w : World) (hA : IntsAt w A xs) (hx : xs.all okM = true) (hl : xs.length ≤ 1000000) :
    Calls Tryz.prog 101 #[.slice A xs.length c] w fun e w' => e = .returned (.int .i64 (rowM xs)) ∧ w = w' := by
  have HA := Lib.hid hA
  have HX := Lib.hid hx
  clear hA hx
  go_enter Tryz.func101, Tryz.ntmps101
  go_wp2
  go_loop [3, 5, 8] (fun o _ i => ∃ k : Nat, k ≤ xs.length ∧ i = .int .i64 k ∧ o = .int .i64 (rowM (xs.take k))) (fun _ _ i => xs.length - (intOf i).toNat)
  case atStart => exact ⟨0, Nat.zero_le _, rfl, rfl⟩
  case round =>
    obtain ⟨k, hk, rfl, rfl⟩ := hrel
    by_cases hlt : k < xs.length
    · obtain ⟨b, off, rfl, _, hc⟩ := HA.out k hlt
      have hn := all_at HX.out k hlt
      have hr := rowM_ok (xs.take k)
      have HS := Lib.hid (rowM_step xs k hlt)
      obtain ⟨x, hxe⟩ : ∃ x, x = xs.getD k 0 := ⟨_, rfl⟩
      rw [← hxe] at hc hn
      have HV := Lib.hid hxe
      clear hxe
      go_wp2_with (go_at_call 98; refine (pair_any _ _ _ (by assumption) (by assumption)).mono ?_; rintro e w' ⟨rfl, rfl⟩)
      go_round
      case rel => exact ⟨k + 1, by omega, by go_num, by rw [HS.out, ← HV.out]⟩
      case measure => simp [intOf]; omega
    · go_wp2
      go_ret
      exact ⟨i64_lit (by rw [List.take_of_length_le (by omega)]), rfl⟩


/-- '[]byte(s)': a new block that reads as the bytes of s; the world behind it is a letter. -/
theorem conv_bytes (s : ByteArray) (w : World) : ∃ cap w1, (convert 9 43 (.string s)).run Tryz.prog w = .ok (.slice (some ⟨w.heap.size, 0, none⟩) s.size cap) w1 ∧ Below w.heap.size w w1 ∧
    w.heap.size < w1.heap.size ∧ ∀ j, j < s.size → w1.cell? ⟨w.heap.size, j, none⟩ = some (.int .u8 ((s.data.toList.getD j 0).toNat : Int)) := by
  refine ⟨_, _, run_bytes_of_string (P := Tryz.prog) w 9 43 5 s Tryz.underlying9 Tryz.underlying43 Tryz.underlying5, ?_, ?_, ?_⟩
  · exact ((Below.refl _ _).drew).alloc (Nat.le_refl _) _
  · show _ < (w.drew.heap.push _).size
    rw [Array.size_push]; exact Nat.lt_succ_self _
  · intro j hj
    show (w.alloc _).cell? _ = _
    rw [World.cell?_alloc_mark, bytesRow_at s _ j hj]
    have hj' : j < s.data.toList.length := by simpa using hj
    rw [List.getD_eq_getElem?_getD, List.getElem?_eq_getElem hj']
    simp

set_option maxHeartbeats 400000 in
theorem text_any (s : ByteArray) (w : World) (hs : s.size ≤ 9000000000000000000) :
    Calls Tryz.prog 89 #[.string s] w fun e w' => e = .returned (.int .i64 (textM s.data.toList)) ∧ Below w.heap.size w w' := by
  obtain ⟨cap, w1, hconv, hb, hsz, hcell⟩ := conv_bytes s w
  have HC := Lib.hid hcell
  have HB := Lib.hid hb
  clear hcell hb
  go_enter Tryz.func89, Tryz.ntmps89
  go_wp2
  clear hconv
  go_loop [3, 5, 9] (fun o _ i => ∃ k : Nat, k ≤ s.size ∧ i = .int .i64 k ∧ o = .int .i64 (textM (s.data.toList.take k))) (fun _ _ i => s.size - (intOf i).toNat)
  case atStart => exact ⟨0, Nat.zero_le _, rfl, rfl⟩
  case round =>
    obtain ⟨k, hk, rfl, rfl⟩ := hrel
    by_cases hlt : k < s.size
    · have hc := HC.out k hlt
      obtain ⟨r1, r2⟩ := okM_yes (textM_ok (s.data.toList.take k))
      have HS := Lib.hid (textM_step s.data.toList k (by simpa using hlt))
      obtain ⟨cv, hcv⟩ : ∃ cv : Int, cv = ((s.data.toList.getD k 0).toNat : Int) := ⟨_, rfl⟩
      rw [← hcv] at hc
      have b1 : 0 ≤ cv := by omega
      have b2 : cv ≤ 255 := by have := (s.data.toList.getD k 0).toNat_lt; omega
      have HV := Lib.hid hcv
      clear hcv
      go_wp2
      go_round
      case rel => exact ⟨k + 1, by omega, by go_num, by rw [HS.out, stepT, ← HV.out]⟩
      case measure => simp [intOf]; omega
    · go_wp2
      go_ret
      exact ⟨i64_lit (by rw [List.take_of_length_le (by simp; omega)]), HB.out⟩

set_option maxHeartbeats 400000 in
theorem mOf_any (s : ByteArray) (w : World) (hs : s.size ≤ 9000000000000000000) :
    Calls Tryz.prog 68 #[.string s] w fun e w' => e = .returned (.tuple #[.int .i64 (ofM s.data.toList), errV (ofE s.data.toList)]) ∧ Below w.heap.size w w' := by
  by_cases hl : 24 < s.size
  · have HE : Hid (ofE s.data.toList = 4) := Lib.hid (if_pos (by simpa using hl))
    have HM : Hid (ofM s.data.toList = 0) := Lib.hid (if_pos (by simpa using hl))
    go_enter Tryz.func68, Tryz.ntmps68
    go_wp2
    go_ret2
    exact ⟨by rw [HE.out, HM.out]; rfl, Below.refl _ _⟩
  · have HE : Hid (ofE s.data.toList = 0) := Lib.hid (if_neg (by simpa using hl))
    have HM : Hid (ofM s.data.toList = textM s.data.toList) := Lib.hid (if_neg (by simpa using hl))
    go_enter Tryz.func68, Tryz.ntmps68
    go_wp2_with (go_at_call 89; refine (text_any _ _ (by omega)).mono ?_; rintro e w1 ⟨rfl, hb⟩)
    go_ret2
    exact ⟨by rw [HE.out, HM.out]; rfl, by assumption⟩

end Go.Proofs.YtegiffdlfpdbkaaGreatDoor
