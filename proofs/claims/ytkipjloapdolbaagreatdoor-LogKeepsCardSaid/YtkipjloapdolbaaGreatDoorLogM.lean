/- log's methods: step, back, Raise, Sync, Fail, Crash, Least, Bytes, Safe over a plain record of a log. -/
import Derived.Test.YtkipjloapdolbaaGreatDoorRows
import Derived.Test.YtkipjloapdolbaaGreatDoorNum
import Derived.Test.YtkipjloapdolbaaGreatDoorBase
import Derived.Test.YtkipjloapdolbaaGreatDoorFoot
import Derived.Test.YtkipjloapdolbaaGreatDoorImg
import Derived.Test.YtkipjloapdolbaaGreatDoorImg2
import Derived.Test.YtkipjloapdolbaaGreatDoorCount
import Derived.Test.YtkipjloapdolbaaGreatDoorCntP
import Derived.Test.YtkipjloapdolbaaGreatDoorCntC
import Derived.Test.YtkipjloapdolbaaGreatDoorLines
import Derived.Test.YtkipjloapdolbaaGreatDoorLogP
import Derived.Test.YtkipjloapdolbaaGreatDoorLogA
import Derived.Test.YtkipjloapdolbaaGreatDoorRedo
import Derived.WalkKit
import Derived.WalkSpells
import Derived.WalkLawsBesides
import Derived.Lib.Hide
import Derived.Deep.RegionHeld3
namespace Go.Proofs.YtkipjloapdolbaaGreatDoor
open Go.RowKit
set_option maxRecDepth 100000
set_option linter.unusedVariables false
set_option linter.unusedSimpArgs false

/-- The cell of bytealg.MaxLen. -/
def MaxT (w : World) : Prop := ∃ m, w.cell? ⟨0, 0, none⟩ = some (.int .i64 m)
theorem MaxT.below {w w' : World} (h : MaxT w) (hb : Below w.heap.size w w') : MaxT w' := by
  obtain ⟨m, h2⟩ := h
  exact ⟨m, (hb.cell (World.block_lt_of_cell? w _ h2)).trans h2⟩

set_option maxHeartbeats 1000000 in
theorem logStep_any (w : World) (g c : Nat) (bs : ByteArray) (many safe left : Int) (st : Bool) (h1 : -1 ≤ left) (h2 : left ≤ 9223372036854775807) (hB : LogBox w g c bs many safe left st) :
    Calls Tryz.prog 25 #[.pointer (some ⟨g, 0, none⟩)] w fun e w' => e = .returned (.bool (left == 0)) ∧ LogBox w' g c bs many safe (max (-1) (left - 1)) (left == 0) ∧ But (fun k => k = g) w w' := by
  have cB := hB.cell
  have lB := hB.lt
  have f5 := hB.frozen 5
  have f4 := hB.frozen 4
  have HB := Lib.hid hB
  clear hB
  by_cases h0 : left = 0
  all_goals
    first
    | (have t : (left == 0) = true := by simp [h0])
    | (have t : (left == 0) = false := by simp [h0])
    rw [t]
    have H0 := Lib.hid h0
    clear h0
    go_enter Tryz.func25, Tryz.ntmps25
    go_wp2_with fail
    go_ret
    refine ⟨rfl, ?_, ((But.refl (fun k => k = g) w).setCell (p := ⟨g, 5, none⟩) (Or.inl rfl) _).setCell (p := ⟨g, 4, none⟩) (Or.inl rfl) _⟩
    have h := (HB.out.set_ 5 (.bool (left == 0))).set_ 4 (.int .i64 (max (-1) (left - 1)))
    rw [t] at h
    exact h

set_option maxHeartbeats 1000000 in
theorem logBack_any (w : World) (g c : Nat) (bs : ByteArray) (many safe left : Int) (st : Bool) (rs : List Rec) (E : Int) (hB : LogBox w g c bs many safe left st) (hs : bs.data.toList = flatB (recsB rs)) (hv : RecsOK rs) (hn : rs.length ≤ 1000) (hz : bs.size ≤ 1048576) (hM : MaxT w) :
    Calls Tryz.prog 23 #[.pointer (some ⟨g, 0, none⟩), errV E] w fun e w' => e = .returned (.tuple #[.bool false, errV E]) ∧ ∃ b n : Nat, LogBox w' g (b + 1) bs many safe left st ∧ CE w' b n (raisedL rs) ∧ n ≤ rs.length ∧ w.heap.size ≤ b ∧ But (fun k => k = g) w w' := by
  obtain ⟨m, hm⟩ := hM
  have HR := Lib.hid (redo_any rs bs hs hv hn hz w m hm)
  have cB := hB.cell
  have lB := hB.lt
  have HB := Lib.hid hB
  clear hB hs hv hm
  go_enter Tryz.func23, Tryz.ntmps23
  go_wp2_with fail
  refine HR.out.mono ?_
  rintro e w1 ⟨b, n, rfl, hC, hn1, hb1, hb2, hbw⟩
  have HC := Lib.hid hC
  have hb := HB.out.below hbw
  have HB1 := Lib.hid hb
  have cB := hb.cell
  have lB1 := hb.lt
  have fB := hb.frozen
  have HBW := Lib.hid hbw
  clear hC hb hbw
  go_wp2_with fail
  have hk : But (fun k => k = g) w1 (w1.setCell ⟨g, 0, none⟩ (.pointer (some ⟨b + 1, 0, none⟩))) := (But.refl (fun k => k = g) w1).setCell (p := ⟨g, 0, none⟩) (Or.inl rfl) _
  have hx := HB1.out.set_ 0 (.pointer (some ⟨b + 1, 0, none⟩))
  have hbg : ¬ b = g ∧ ¬ b + 1 = g := by constructor <;> omega
  go_ret2
  exact ⟨rfl, b, n, hx, HC.out.but hk hbg.1 hbg.2, hn1, hb1, (below_but HBW.out (fun k => k = g)).trans hk (fun _ _ h => h)⟩

end Go.Proofs.YtkipjloapdolbaaGreatDoor
