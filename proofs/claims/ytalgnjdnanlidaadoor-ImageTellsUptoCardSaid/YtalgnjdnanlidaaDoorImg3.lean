/- image: Print, Measure. -/
import Derived.Test.YtalgnjdnanlidaaDoorRows
import Derived.Test.YtalgnjdnanlidaaDoorNum
import Derived.Test.YtalgnjdnanlidaaDoorBase
import Derived.Test.YtalgnjdnanlidaaDoorImg
import Derived.Test.YtalgnjdnanlidaaDoorImg2
import Derived.Test.YtalgnjdnanlidaaDoorLiftT
import Derived.WalkKit
import Derived.WalkSpells
import Derived.Lib.Hide
namespace Go.Proofs.YtalgnjdnanlidaaDoor
open Go.RowKit
set_option maxRecDepth 100000
set_option linter.unusedVariables false

set_option maxHeartbeats 600000 in
theorem imgPrint_no (n : ByteArray) (v : Int) (c : ByteArray) (w : World) (E : Int) (hn : n.size ≤ 140737488351232) (hc : c.size ≤ 140737488351232) (h : imgE n v c = E) (h0 : E ≠ 0) :
    Calls Tryd.prog 11 #[.agg #[.string n, .int .i64 v, .string c]] w fun e w' => e = .returned (.tuple #[.string ⟨#[]⟩, errV E]) ∧ Below w.heap.size w w' := by
  have en := fun k w => err_neq k w
  have gn := fun o k w => err_guard_neq o k w
  have t : (E != 0) = true := by simp [h0]
  have b0 := Box.new w 31 #[.string n, .int .i64 v, .string c]
  have cB := b0.cell
  have lB := b0.lt
  have HE := Lib.hid h
  clear h h0 b0
  go_enter Tryd.func11, Tryd.ntmps11
  go_wp2_with fail
  refine (imgCheck_any n v c _ (by omega) (by omega)).mono ?_
  rintro e w1 ⟨rfl, hb1⟩
  rw [HE.out]
  go_wp2_with fail
  go_ret2
  exact ⟨rfl, (by repeat (first | (with_reducible exact grow_refl _) | (with_reducible assumption) | (with_reducible refine grow_alloc ?_ _) | (with_reducible refine grow_set ?_ (by first | exact Nat.le_refl _ | (simp; done) | (simp; omega) | omega) _) | (with_reducible refine grow_drewN ?_ _) | (with_reducible refine grow_drew ?_) | (with_reducible refine grow_step ?_ (by assumption)) | (with_reducible refine grow_base ?_ (by assumption))))⟩

set_option maxHeartbeats 600000 in
theorem imgPrint_yes (n : ByteArray) (v : Int) (c : ByteArray) (w : World) (h : imgE n v c = 0) (ht : TabT w) :
    Calls Tryd.prog 11 #[.agg #[.string n, .int .i64 v, .string c]] w fun e w' => e = .returned (.tuple #[.string (lineS n v c), errV 0]) ∧ Below w.heap.size w w' := by
  have en := fun k w => err_neq k w
  have gn := fun o k w => err_guard_neq o k w
  obtain ⟨_, _, _, h1, h2, h3, h4⟩ := imgE_ok h
  have b0 := Box.new w 31 #[.string n, .int .i64 v, .string c]
  have HB := Lib.hid b0
  have cB := b0.cell
  have lB := b0.lt
  have HE := Lib.hid h
  have HT := Lib.hid ht
  clear h ht b0
  go_enter Tryd.func11, Tryd.ntmps11
  go_wp2_with fail
  refine (imgCheck_any n v c _ (by omega) (by omega)).mono ?_
  rintro e w1 ⟨rfl, hb1⟩
  rw [HE.out]
  have HB1 := Lib.hid (HB.out.below hb1)
  have hbw1 : Below w.heap.size w w1 := grow_step (grow_alloc (grow_refl _) _) hb1
  have cB1 := HB1.out.cell
  have lB1 := HB1.out.lt
  clear hb1 cB lB
  go_wp2_with fail
  refine (imgLine_any n v c _ (by omega) (by omega) (by omega) h4 (HT.out.below hbw1)).mono ?_
  rintro e w2 ⟨rfl, hb2⟩
  go_wp2_with fail
  go_ret2
  exact ⟨rfl, grow_step hbw1 hb2⟩

set_option maxHeartbeats 600000 in
theorem imgMeasure_no (n : ByteArray) (v : Int) (c : ByteArray) (w : World) (E : Int) (hn : n.size ≤ 140737488351232) (hc : c.size ≤ 140737488351232) (h : imgE n v c = E) (h0 : E ≠ 0) :
    Calls Tryd.prog 18 #[.agg #[.string n, .int .i64 v, .string c]] w fun e w' => e = .returned (.tuple #[.int .i64 0, errV E]) ∧ Below w.heap.size w w' := by
  have en := fun k w => err_neq k w
  have gn := fun o k w => err_guard_neq o k w
  have t : (E != 0) = true := by simp [h0]
  have b0 := Box.new w 31 #[.string n, .int .i64 v, .string c]
  have cB := b0.cell
  have lB := b0.lt
  have HE := Lib.hid h
  clear h h0 b0
  go_enter Tryd.func18, Tryd.ntmps18
  go_wp2_with fail
  refine (imgCheck_any n v c _ (by omega) (by omega)).mono ?_
  rintro e w1 ⟨rfl, hb1⟩
  rw [HE.out]
  go_wp2_with fail
  go_ret2
  exact ⟨rfl, (by repeat (first | (with_reducible exact grow_refl _) | (with_reducible assumption) | (with_reducible refine grow_alloc ?_ _) | (with_reducible refine grow_set ?_ (by first | exact Nat.le_refl _ | (simp; done) | (simp; omega) | omega) _) | (with_reducible refine grow_drewN ?_ _) | (with_reducible refine grow_drew ?_) | (with_reducible refine grow_step ?_ (by assumption)) | (with_reducible refine grow_base ?_ (by assumption))))⟩

set_option maxHeartbeats 600000 in
theorem imgMeasure_yes (n : ByteArray) (v : Int) (c : ByteArray) (w : World) (h : imgE n v c = 0) (ht : TabT w) :
    Calls Tryd.prog 18 #[.agg #[.string n, .int .i64 v, .string c]] w fun e w' => e = .returned (.tuple #[.int .i64 (imgM n v c), errV 0]) ∧ Below w.heap.size w w' := by
  have en := fun k w => err_neq k w
  have gn := fun o k w => err_guard_neq o k w
  obtain ⟨_, _, _, h1, h2, h3, h4⟩ := imgE_ok h
  have b0 := Box.new w 31 #[.string n, .int .i64 v, .string c]
  have HB := Lib.hid b0
  have cB := b0.cell
  have lB := b0.lt
  have HE := Lib.hid h
  have HT := Lib.hid ht
  clear h ht b0
  go_enter Tryd.func18, Tryd.ntmps18
  go_wp2_with fail
  refine (imgCheck_any n v c _ (by omega) (by omega)).mono ?_
  rintro e w1 ⟨rfl, hb1⟩
  rw [HE.out]
  have HB1 := Lib.hid (HB.out.below hb1)
  have hbw1 : Below w.heap.size w w1 := grow_step (grow_alloc (grow_refl _) _) hb1
  have cB1 := HB1.out.cell
  have lB1 := HB1.out.lt
  clear hb1 cB lB
  go_wp2_with fail
  refine (imgIs_any n v c _ HE.out (HT.out.below hbw1)).mono ?_
  rintro e w2 ⟨rfl, hb2⟩
  go_wp2_with fail
  go_ret2
  exact ⟨rfl, grow_step hbw1 hb2⟩

end Go.Proofs.YtalgnjdnanlidaaDoor
