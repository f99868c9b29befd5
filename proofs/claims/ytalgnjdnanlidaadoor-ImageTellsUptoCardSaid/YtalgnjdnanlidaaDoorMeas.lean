/- The walks of package measure. -/
import Derived.Test.YtalgnjdnanlidaaDoorRows
import Derived.Test.YtalgnjdnanlidaaDoorNum
import Derived.Test.YtalgnjdnanlidaaDoorBase
import Derived.WalkKit
import Derived.WalkSpells
import Derived.WalkLawsBesides
import Derived.Lib.Hide
import Derived.Laws.IdiomStrings
namespace Go.Proofs.YtalgnjdnanlidaaDoor
open Go.RowKit


theorem i64_lit {a b : Int} (h : a = b) : Ending.returned (.int .i64 a) = .returned (.int .i64 b) := by rw [h]






/-- '[]byte(s)': a new block that reads as the bytes of s; the world behind it is a letter. -/
theorem conv_bytes (s : ByteArray) (w : World) : ∃ cap w1, (convert 9 79 (.string s)).run Tryd.prog w = .ok (.slice (some ⟨w.heap.size, 0, none⟩) s.size cap) w1 ∧ Below w.heap.size w w1 ∧
    w.heap.size < w1.heap.size ∧ ∀ j, j < s.size → w1.cell? ⟨w.heap.size, j, none⟩ = some (.int .u8 ((s.data.toList.getD j 0).toNat : Int)) := by
  refine ⟨_, _, run_bytes_of_string (P := Tryd.prog) w 9 79 5 s Tryd.underlying9 Tryd.underlying79 Tryd.underlying5, ?_, ?_, ?_⟩
  · exact ((Below.refl _ _).drew).alloc (Nat.le_refl _) _
  · show _ < (w.drew.heap.push _).size
    rw [Array.size_push]; exact Nat.lt_succ_self _
  · intro j hj
    show (w.alloc _).cell? _ = _
    rw [World.cell?_alloc_mark, bytesRow_at s _ j hj]
    have hj' : j < s.data.toList.length := by simpa using hj
    rw [List.getD_eq_getElem?_getD, List.getElem?_eq_getElem hj']
    simp

set_option maxHeartbeats 400000 in
theorem text_any (s : ByteArray) (w : World) (hs : s.size ≤ 9000000000000000000) :
    Calls Tryd.prog 51 #[.string s] w fun e w' => e = .returned (.int .i64 (textM s.data.toList)) ∧ Below w.heap.size w w' := by
  obtain ⟨cap, w1, hconv, hb, hsz, hcell⟩ := conv_bytes s w
  have HC := Lib.hid hcell
  have HB := Lib.hid hb
  clear hcell hb
  go_enter Tryd.func51, Tryd.ntmps51
  go_wp2
  clear hconv
  go_loop [3, 5, 9] (fun o _ i => ∃ k : Nat, k ≤ s.size ∧ i = .int .i64 k ∧ o = .int .i64 (textM (s.data.toList.take k))) (fun _ _ i => s.size - (intOf i).toNat)
  case atStart => exact ⟨0, Nat.zero_le _, rfl, rfl⟩
  case round =>
    obtain ⟨k, hk, rfl, rfl⟩ := hrel
    by_cases hlt : k < s.size
    · have hc := HC.out k hlt
      obtain ⟨r1, r2⟩ := okM_yes (textM_ok (s.data.toList.take k))
      have HS := Lib.hid (textM_step s.data.toList k (by simpa using hlt))
      obtain ⟨cv, hcv⟩ : ∃ cv : Int, cv = ((s.data.toList.getD k 0).toNat : Int) := ⟨_, rfl⟩
      rw [← hcv] at hc
      have b1 : 0 ≤ cv := by omega
      have b2 : cv ≤ 255 := by have := (s.data.toList.getD k 0).toNat_lt; omega
      have HV := Lib.hid hcv
      clear hcv
      go_wp2
      go_round
      case rel => exact ⟨k + 1, by omega, by go_num, by rw [HS.out, stepT, ← HV.out]⟩
      case measure => simp [intOf]; omega
    · go_wp2
      go_ret
      exact ⟨i64_lit (by rw [List.take_of_length_le (by simp; omega)]), HB.out⟩


end Go.Proofs.YtalgnjdnanlidaaDoor
