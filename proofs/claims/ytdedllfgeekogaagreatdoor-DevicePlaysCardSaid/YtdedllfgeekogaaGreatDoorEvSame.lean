/- stairsame.Events of two lists that are alike. -/
import Derived.Test.YtdedllfgeekogaaGreatDoorRows
import Derived.Test.YtdedllfgeekogaaGreatDoorNum
import Derived.Test.YtdedllfgeekogaaGreatDoorBase
import Derived.Test.YtdedllfgeekogaaGreatDoorOpE
import Derived.Test.YtdedllfgeekogaaGreatDoorEvent
import Derived.WalkKit
import Derived.WalkSpells
import Derived.Lib.Hide
import Derived.Deep.QuietTactic
import Derived.BigQuiet
import Derived.RegionTactic
import Derived.BigRegion
namespace Go.Proofs.YtdedllfgeekogaaGreatDoor
open Go.RowKit
set_option maxRecDepth 100000

theorem evEq_in (x m y n : Int) (w : World) : (Op.equalIn 10000 82 (.agg #[.int .i64 x, .int .i64 m]) (.agg #[.int .i64 y, .int .i64 n])).run Tryz.prog w = .ok (x == y && m == n) w := by
  cases h1 : (x == y)
  · have e : x ≠ y := by simpa using h1
    simp [go_sem, Op.eqFields, h1, Tryz.underlying82, Tryz.underlying3, part]
  · have e : x = y := by simpa using h1
    by_cases hmn : m = n <;> simp [hmn, go_sem, Op.eqFields, h1, Tryz.underlying82, Tryz.underlying3, part]
theorem ev_neq (x m y n : Int) (w : World) : (binOp .neq 82 (.agg #[.int .i64 x, .int .i64 m]) (.agg #[.int .i64 y, .int .i64 n])).run Tryz.prog w = .ok (.bool (!(x == y && m == n))) w := by
  rw [run_neq_struct, evEq_in]; rfl
theorem ev_neq_self (x m : Int) (w : World) : (binOp .neq 82 (.agg #[.int .i64 x, .int .i64 m]) (.agg #[.int .i64 x, .int .i64 m])).run Tryz.prog w = .ok (.bool false) w := by
  rw [ev_neq]; simp
theorem ev_nguard (x m y n : Int) (o p : Operand) (w : World) : (eqGuard .neq 82 o p (.agg #[.int .i64 x, .int .i64 m]) (.agg #[.int .i64 y, .int .i64 n])).run Tryz.prog w = .ok () w := by kernel_rfl

set_option maxHeartbeats 2000000 in
theorem sameEvents_any (A B : Option Addr) (ca cb : Nat) (es : List (Int × Int)) (w : World) (hA : EvsAt w A es) (hB : EvsAt w B es) (hl : es.length ≤ 1000000) :
    Calls Tryz.prog 36 #[.slice A es.length ca, .slice B es.length cb] w fun e w' => e = .returned (.bool true) ∧ Below w.heap.size w w' := by
  have HA := Lib.hid hA
  have HB := Lib.hid hB
  clear hA hB
  go_enter Tryz.func36, Tryz.ntmps36
  go_wp2_with fail
  go_loopw [5] (fun i wr => ∃ k : Nat, k ≤ es.length ∧ i = .int .i64 k ∧ Below w.heap.size w wr) (fun i _ => es.length - (intOf i).toNat)
  case atStart => exact ⟨0, Nat.zero_le _, rfl, (by repeat (first | (with_reducible exact grow_refl _) | (with_reducible assumption) | (with_reducible refine grow_alloc ?_ _) | (with_reducible refine grow_set ?_ (by first | exact Nat.le_refl _ | (simp; done) | (simp; omega) | omega) _) | (with_reducible refine grow_drewN ?_ _) | (with_reducible refine grow_drew ?_) | (with_reducible refine grow_step ?_ (by assumption)) | (with_reducible refine grow_base ?_ (by assumption))))⟩
  case round =>
    obtain ⟨k, hk, rfl, hb⟩ := hrel
    by_cases hlt : k < es.length
    · have g0 : (k : Int) < (es.length : Int) := by omega
      obtain ⟨ba, oa, rfl, la, c1, c2⟩ := (HA.out.below hb) k hlt
      obtain ⟨bb, ob, rfl, lb, d1, d2⟩ := (HB.out.below hb) k hlt
      obtain ⟨⟨x, m⟩, hx⟩ : ∃ z, es.getD k (0, 0) = z := ⟨_, rfl⟩
      rw [hx] at c1 c2 d1 d2
      simp only at c1 c2 d1 d2
      clear hx
      have q1 := fun w => ev_neq_self x m w
      have q2 := fun o p w => ev_nguard x m x m o p w
      go_wp2_with fail
      go_region
      all_goals
        go_wp2_with fail
        go_roundw
        case rel => exact ⟨k + 1, by omega, by go_num, (by repeat (first | (with_reducible exact grow_refl _) | (with_reducible assumption) | (with_reducible refine grow_alloc ?_ _) | (with_reducible refine grow_set ?_ (by first | exact Nat.le_refl _ | (simp; done) | (simp; omega) | omega) _) | (with_reducible refine grow_drewN ?_ _) | (with_reducible refine grow_drew ?_) | (with_reducible refine grow_step ?_ (by assumption)) | (with_reducible refine grow_base ?_ (by assumption))))⟩
        case measure => simp [intOf]; omega
    · have g0 : ¬ (k : Int) < (es.length : Int) := by omega
      go_wp2_with fail
      go_ret
      exact ⟨rfl, (by repeat (first | (with_reducible exact grow_refl _) | (with_reducible assumption) | (with_reducible refine grow_alloc ?_ _) | (with_reducible refine grow_set ?_ (by first | exact Nat.le_refl _ | (simp; done) | (simp; omega) | omega) _) | (with_reducible refine grow_drewN ?_ _) | (with_reducible refine grow_drew ?_) | (with_reducible refine grow_step ?_ (by assumption)) | (with_reducible refine grow_base ?_ (by assumption))))⟩

end Go.Proofs.YtdedllfgeekogaaGreatDoor
