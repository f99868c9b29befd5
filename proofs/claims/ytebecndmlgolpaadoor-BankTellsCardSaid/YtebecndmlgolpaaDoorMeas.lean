/- The walks of package measure. -/
import Derived.Test.YtebecndmlgolpaaDoorRows
import Derived.Test.YtebecndmlgolpaaDoorNum
import Derived.Test.YtebecndmlgolpaaDoorBase
import Derived.WalkKit
import Derived.WalkSpells
import Derived.WalkLawsBesides
import Derived.Lib.Hide
import Derived.Laws.IdiomStrings
namespace Go.Proofs.YtebecndmlgolpaaDoor
open Go.RowKit


theorem i64_lit {a b : Int} (h : a = b) : Ending.returned (.int .i64 a) = .returned (.int .i64 b) := by rw [h]

set_option maxHeartbeats 400000 in
theorem mIs_any (n : Int) (w : World) :
    Calls Tryd.prog 53 #[.int .i64 n] w fun e w' => e = .returned (.bool (okM n)) ∧ w = w' := by
  by_cases h1 : 0 ≤ n
  · by_cases h2 : n < 1000003
    · have h : okM n = true := okM_mk h1 (by omega)
      rw [h]
      go_enter Tryd.func53, Tryd.ntmps53
      go_wp2
      go_ret
      exact ⟨rfl, rfl⟩
    · have h : okM n = false := decide_eq_false (by omega)
      rw [h]
      go_enter Tryd.func53, Tryd.ntmps53
      go_wp2
      go_ret
      exact ⟨rfl, rfl⟩
  · have h : okM n = false := decide_eq_false (by omega)
    rw [h]
    go_enter Tryd.func53, Tryd.ntmps53
    go_wp2
    go_ret
    exact ⟨rfl, rfl⟩

set_option maxHeartbeats 400000 in
theorem pair_any (a b : Int) (w : World) (ha : okM a = true) (hb : okM b = true) :
    Calls Tryd.prog 54 #[.int .i64 a, .int .i64 b] w fun e w' => e = .returned (.int .i64 (pairM a b)) ∧ w = w' := by
  obtain ⟨a1, a2⟩ := okM_yes ha
  obtain ⟨b1, b2⟩ := okM_yes hb
  clear ha hb
  go_enter Tryd.func54, Tryd.ntmps54
  go_wp2
  go_ret
  exact ⟨rfl, rfl⟩

set_option maxHeartbeats 400000 in
theorem two_any (a b : Int) (w : World) :
    Calls Tryd.prog 15 #[.int .i64 a, .int .i64 b] w fun e w' => e = .returned (.tuple #[.int .i64 (twoM a b), errV (twoE a b)]) ∧ w = w' := by
  cases ha : okM a
  · have HE : Hid (twoE a b = 1) := Lib.hid (by simp [twoE, ha])
    have HM : Hid (twoM a b = 0) := Lib.hid (by simp [twoM, ha])
    go_enter Tryd.func15, Tryd.ntmps15
    go_wp2_with (go_at_call 53; refine (mIs_any _ _).mono ?_; rintro e w' ⟨rfl, rfl⟩)
    go_ret2
    exact ⟨by rw [HE.out, HM.out]; rfl, rfl⟩
  · cases hb : okM b
    · have HE : Hid (twoE a b = 1) := Lib.hid (by simp [twoE, ha, hb])
      have HM : Hid (twoM a b = 0) := Lib.hid (by simp [twoM, ha, hb])
      go_enter Tryd.func15, Tryd.ntmps15
      go_wp2_with (go_at_call 53; refine (mIs_any _ _).mono ?_; rintro e w' ⟨rfl, rfl⟩)
      go_ret2
      exact ⟨by rw [HE.out, HM.out]; rfl, rfl⟩
    · have HE : Hid (twoE a b = 0) := Lib.hid (by simp [twoE, ha, hb])
      have HM : Hid (twoM a b = pairM a b) := Lib.hid (by simp [twoM, ha, hb])
      go_enter Tryd.func15, Tryd.ntmps15
      go_wp2_with (first | (go_at_call 53; refine (mIs_any _ _).mono ?_; rintro e w' ⟨rfl, rfl⟩) | (go_at_call 54; refine (pair_any _ _ _ ha hb).mono ?_; rintro e w' ⟨rfl, rfl⟩))
      go_ret2
      exact ⟨by rw [HE.out, HM.out]; rfl, rfl⟩

set_option maxHeartbeats 400000 in
theorem row_any (A : Option Addr) (c : Nat) (xs : List Int) (w : World) (hA : IntsAt w A xs) (hx : xs.all okM = true) (hl : xs.length ≤ 1000000) :
    Calls Tryd.prog 55 #[.slice A xs.length c] w fun e w' => e = .returned (.int .i64 (rowM xs)) ∧ w = w' := by
  have HA := Lib.hid hA
  have HX := Lib.hid hx
  clear hA hx
  go_enter Tryd.func55, Tryd.ntmps55
  go_wp2
  go_loop [3, 5, 8] (fun o _ i => ∃ k : Nat, k ≤ xs.length ∧ i = .int .i64 k ∧ o = .int .i64 (rowM (xs.take k))) (fun _ _ i => xs.length - (intOf i).toNat)
  case atStart => exact ⟨0, Nat.zero_le _, rfl, rfl⟩
  case round =>
    obtain ⟨k, hk, rfl, rfl⟩ := hrel
    by_cases hlt : k < xs.length
    · obtain ⟨b, off, rfl, _, hc⟩ := HA.out k hlt
      have hn := all_at HX.out k hlt
      have hr := rowM_ok (xs.take k)
      have HS := Lib.hid (rowM_step xs k hlt)
      obtain ⟨x, hxe⟩ : ∃ x, x = xs.getD k 0 := ⟨_, rfl⟩
      rw [← hxe] at hc hn
      have HV := Lib.hid hxe
      clear hxe
      go_wp2_with (go_at_call 54; refine (pair_any _ _ _ (by assumption) (by assumption)).mono ?_; rintro e w' ⟨rfl, rfl⟩)
      go_round
      case rel => exact ⟨k + 1, by omega, by go_num, by rw [HS.out, ← HV.out]⟩
      case measure => simp [intOf]; omega
    · go_wp2
      go_ret
      exact ⟨i64_lit (by rw [List.take_of_length_le (by omega)]), rfl⟩

set_option maxHeartbeats 400000 in
theorem all_any (A : Option Addr) (c : Nat) (xs : List Int) (w : World) (hA : IntsAt w A xs) (hbig : xs.length ≤ 9223372036854775807) :
    Calls Tryd.prog 17 #[.slice A xs.length c] w fun e w' => e = .returned (.tuple #[.int .i64 (allM xs), errV (allE xs)]) ∧ w = w' := by
  by_cases hl : 30 < xs.length
  · have HE : Hid (allE xs = 4) := Lib.hid (by simp [allE, hl])
    have HM : Hid (allM xs = 0) := Lib.hid (by simp [allM, HE.out])
    go_enter Tryd.func17, Tryd.ntmps17
    go_wp2
    go_ret2
    exact ⟨by rw [HE.out, HM.out]; rfl, rfl⟩
  · have HA := Lib.hid hA
    clear hA hbig
    go_enter Tryd.func17, Tryd.ntmps17
    go_wp2
    go_loop [5, 12, 14, 15, 16, 17, 18] (fun _ i _ _ _ _ _ => ∃ k : Nat, k ≤ xs.length ∧ i = .int .i64 k ∧ Hid ((xs.take k).all okM = true)) (fun _ i _ _ _ _ _ => xs.length - (intOf i).toNat)
    case atStart => exact ⟨0, Nat.zero_le _, rfl, Lib.hid (by simp)⟩
    case round =>
      obtain ⟨k, hk, rfl, HP⟩ := hrel
      by_cases hlt : k < xs.length
      · obtain ⟨b, off, rfl, _, hc⟩ := HA.out k hlt
        obtain ⟨x, hxe⟩ : ∃ x, x = xs.getD k 0 := ⟨_, rfl⟩
        rw [← hxe] at hc
        have HV := Lib.hid hxe
        clear hxe
        cases hn : okM x
        · have hall := all_not xs k hlt (HV.out ▸ hn)
          have HE : Hid (allE xs = 1) := Lib.hid (by simp [allE, hl, hall])
          have HM : Hid (allM xs = 0) := Lib.hid (by simp [allM, HE.out])
          clear hall
          go_wp2_with (go_at_call 53; refine (mIs_any _ _).mono ?_; rintro e w' ⟨rfl, rfl⟩)
          go_ret2
          exact ⟨by rw [HE.out, HM.out]; rfl, rfl⟩
        · have HQ := Lib.hid (all_step xs k hlt HP.out (HV.out ▸ hn))
          go_wp2_with (go_at_call 53; refine (mIs_any _ _).mono ?_; rintro e w' ⟨rfl, rfl⟩)
          go_round
          case rel => exact ⟨k + 1, by omega, by go_num, HQ⟩
          case measure => simp [intOf]; omega
      · have hall : xs.all okM = true := by have := HP.out; rwa [List.take_of_length_le (by omega)] at this
        have HE : Hid (allE xs = 0) := Lib.hid (by simp [allE, hl, hall])
        have HM : Hid (allM xs = rowM xs) := Lib.hid (by simp [allM, HE.out])
        have HX := Lib.hid hall
        clear hall
        go_wp2_with (go_at_call 55; refine (row_any _ _ _ _ HA.out HX.out (by omega)).mono ?_; rintro e w' ⟨rfl, rfl⟩)
        go_ret2
        exact ⟨by rw [HE.out, HM.out]; rfl, rfl⟩

/-- '[]byte(s)': a new block that reads as the bytes of s; the world behind it is a letter. -/
theorem conv_bytes (s : ByteArray) (w : World) : ∃ cap w1, (convert 9 102 (.string s)).run Tryd.prog w = .ok (.slice (some ⟨w.heap.size, 0, none⟩) s.size cap) w1 ∧ Below w.heap.size w w1 ∧
    w.heap.size < w1.heap.size ∧ ∀ j, j < s.size → w1.cell? ⟨w.heap.size, j, none⟩ = some (.int .u8 ((s.data.toList.getD j 0).toNat : Int)) := by
  refine ⟨_, _, run_bytes_of_string (P := Tryd.prog) w 9 102 5 s Tryd.underlying9 Tryd.underlying102 Tryd.underlying5, ?_, ?_, ?_⟩
  · exact ((Below.refl _ _).drew).alloc (Nat.le_refl _) _
  · show _ < (w.drew.heap.push _).size
    rw [Array.size_push]; exact Nat.lt_succ_self _
  · intro j hj
    show (w.alloc _).cell? _ = _
    rw [World.cell?_alloc_mark, bytesRow_at s _ j hj]
    have hj' : j < s.data.toList.length := by simpa using hj
    rw [List.getD_eq_getElem?_getD, List.getElem?_eq_getElem hj']
    simp

set_option maxHeartbeats 400000 in
theorem text_any (s : ByteArray) (w : World) (hs : s.size ≤ 9000000000000000000) :
    Calls Tryd.prog 51 #[.string s] w fun e w' => e = .returned (.int .i64 (textM s.data.toList)) ∧ Below w.heap.size w w' := by
  obtain ⟨cap, w1, hconv, hb, hsz, hcell⟩ := conv_bytes s w
  have HC := Lib.hid hcell
  have HB := Lib.hid hb
  clear hcell hb
  go_enter Tryd.func51, Tryd.ntmps51
  go_wp2
  clear hconv
  go_loop [3, 5, 9] (fun o _ i => ∃ k : Nat, k ≤ s.size ∧ i = .int .i64 k ∧ o = .int .i64 (textM (s.data.toList.take k))) (fun _ _ i => s.size - (intOf i).toNat)
  case atStart => exact ⟨0, Nat.zero_le _, rfl, rfl⟩
  case round =>
    obtain ⟨k, hk, rfl, rfl⟩ := hrel
    by_cases hlt : k < s.size
    · have hc := HC.out k hlt
      obtain ⟨r1, r2⟩ := okM_yes (textM_ok (s.data.toList.take k))
      have HS := Lib.hid (textM_step s.data.toList k (by simpa using hlt))
      obtain ⟨cv, hcv⟩ : ∃ cv : Int, cv = ((s.data.toList.getD k 0).toNat : Int) := ⟨_, rfl⟩
      rw [← hcv] at hc
      have b1 : 0 ≤ cv := by omega
      have b2 : cv ≤ 255 := by have := (s.data.toList.getD k 0).toNat_lt; omega
      have HV := Lib.hid hcv
      clear hcv
      go_wp2
      go_round
      case rel => exact ⟨k + 1, by omega, by go_num, by rw [HS.out, stepT, ← HV.out]⟩
      case measure => simp [intOf]; omega
    · go_wp2
      go_ret
      exact ⟨i64_lit (by rw [List.take_of_length_le (by simp; omega)]), HB.out⟩

set_option maxHeartbeats 400000 in
theorem mOf_any (s : ByteArray) (w : World) (hs : s.size ≤ 9000000000000000000) :
    Calls Tryd.prog 11 #[.string s] w fun e w' => e = .returned (.tuple #[.int .i64 (ofM s.data.toList), errV (ofE s.data.toList)]) ∧ Below w.heap.size w w' := by
  by_cases hl : 24 < s.size
  · have HE : Hid (ofE s.data.toList = 4) := Lib.hid (if_pos (by simpa using hl))
    have HM : Hid (ofM s.data.toList = 0) := Lib.hid (if_pos (by simpa using hl))
    go_enter Tryd.func11, Tryd.ntmps11
    go_wp2
    go_ret2
    exact ⟨by rw [HE.out, HM.out]; rfl, Below.refl _ _⟩
  · have HE : Hid (ofE s.data.toList = 0) := Lib.hid (if_neg (by simpa using hl))
    have HM : Hid (ofM s.data.toList = textM s.data.toList) := Lib.hid (if_neg (by simpa using hl))
    go_enter Tryd.func11, Tryd.ntmps11
    go_wp2_with (go_at_call 51; refine (text_any _ _ (by omega)).mono ?_; rintro e w1 ⟨rfl, hb⟩)
    go_ret2
    exact ⟨by rw [HE.out, HM.out]; rfl, by assumption⟩

end Go.Proofs.YtebecndmlgolpaaDoor
