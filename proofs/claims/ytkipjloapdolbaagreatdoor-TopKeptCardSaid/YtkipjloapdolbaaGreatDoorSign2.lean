/- sign: Make; an image is what it is. -/
import Derived.Test.YtkipjloapdolbaaGreatDoorRows
import Derived.Test.YtkipjloapdolbaaGreatDoorNum
import Derived.Test.YtkipjloapdolbaaGreatDoorSeal
import Derived.Test.YtkipjloapdolbaaGreatDoorBase
import Derived.Test.YtkipjloapdolbaaGreatDoorMeas
import Derived.Test.YtkipjloapdolbaaGreatDoorKey
import Derived.Test.YtkipjloapdolbaaGreatDoorImg
import Derived.Test.YtkipjloapdolbaaGreatDoorImg2
import Derived.Test.YtkipjloapdolbaaGreatDoorSign
import Derived.WalkKit
import Derived.WalkSpells
import Derived.Lib.Hide
import Derived.DeepKeys
import Derived.WalkArith
namespace Go.Proofs.YtkipjloapdolbaaGreatDoor
open Go.RowKit
set_option maxRecDepth 100000

theorem imLits (n : ByteArray) (v : Int) (c : ByteArray) (hn : n.size ≤ 140737488351232) (hc : c.size ≤ 140737488351232) (iv : I64 v) :
    Tryz.prog.keyLits 2 74 [.string n, .int .i64 v, .string c] = some [.string n.data.toList, .int .i64 v, .string c.data.toList] := by
  have c2 : Program.cellsOf Tryz.prog 74 = 3 := by kernel_rfl
  have c4 : Program.cellsOf Tryz.prog 3 = 1 := by kernel_rfl
  have c5 : Program.cellsOf Tryz.prog 9 = 1 := by kernel_rfl
  have w : ∀ x, I64 x → (Lit.int .i64 x).wf = true := fun x hx => WalkArith.wf_i64 hx
  have m1 : n.size ≤ maxLen := by unfold maxLen; omega
  have m2 : c.size ≤ maxLen := by unfold maxLen; omega
  simp [Program.keyLits, Tryz.underlying74, Tryz.underlying3, Tryz.underlying9, c2, c4, c5, w v iv, m1, m2]
  try (repeat (rw [if_pos (by decide)]))
  try rfl
theorem neIm (n : ByteArray) (v : Int) (c : ByteArray) (hn : n.size ≤ 140737488351232) (hc : c.size ≤ 140737488351232) (iv : I64 v) (w : World) : (binOp .neq 74 (.agg #[.string n, .int .i64 v, .string c]) (.agg #[.string n, .int .i64 v, .string c])).run Tryz.prog w = .ok (.bool false) w := by
  have k := imLits n v c hn hc iv
  have f : Value.formed Tryz.prog 74 (.agg #[.string n, .int .i64 v, .string c]) = true := by
    have c1 : Program.cellsOf Tryz.prog 74 = 3 := by kernel_rfl
    simp [Value.formed, Tryz.underlying74, c1]
  obtain ⟨r, hr, hi⟩ := run_equalIn_deep (P := Tryz.prog) 9998 2 74 (by kernel_rfl) w 2 2 (.agg #[.string n, .int .i64 v, .string c]) (.agg #[.string n, .int .i64 v, .string c]) _ _ f f (by simpa [Value.cells] using k) (by simpa [Value.cells] using k)
  rw [hi.2 rfl] at hr
  have hr' : (Op.equalIn 10000 74 (.agg #[.string n, .int .i64 v, .string c]) (.agg #[.string n, .int .i64 v, .string c])).run Tryz.prog w = .ok true w := hr
  rw [run_neq_struct, hr']; rfl
theorem guardIm (x0 x1 x2 y0 y1 y2 : Value) (op : BinOp) (o p : Operand) (w : World) : (eqGuard op 74 o p (.agg #[x0, x1, x2]) (.agg #[y0, y1, y2])).run Tryz.prog w = .ok () w := by
  cases op <;> kernel_rfl

def Z5 : Array Value := #[.string ⟨#[]⟩, .int .i64 0, .string ⟨#[]⟩, .int .i64 0, .int .i64 0]

theorem new1 (w : World) (n : ByteArray) (v : Int) (c : ByteArray) : Box ((w.alloc (.cells #[.string n, .int .i64 v, .string c] 74)).alloc (.cells #[.string ⟨#[]⟩, .int .i64 0, .string ⟨#[]⟩, .int .i64 0, .int .i64 0] 76)) (w.heap.size + 1) 76 #[.string ⟨#[]⟩, .int .i64 0, .string ⟨#[]⟩, .int .i64 0, .int .i64 0] := by
  have h := Box.new (w.alloc (.cells #[.string n, .int .i64 v, .string c] 74)) 76 #[.string ⟨#[]⟩, .int .i64 0, .string ⟨#[]⟩, .int .i64 0, .int .i64 0]
  have e : (w.alloc (.cells #[.string n, .int .i64 v, .string c] 74)).heap.size = w.heap.size + 1 := by simp
  rw [e] at h
  exact h

set_option maxHeartbeats 1000000 in
theorem signMake_no (x k : Int) (n : ByteArray) (v : Int) (c : ByteArray) (w : World) (hn : n.size ≤ 9000000000000000000) (hc : c.size ≤ 9000000000000000000) (hi : imgE n v c ≠ 0) :
    Calls Tryz.prog 32 #[.int .i64 x, .int .i64 k, .agg #[.string n, .int .i64 v, .string c]] w fun e w' => e = .returned (.tuple #[.agg #[.string ⟨#[]⟩, .int .i64 0, .string ⟨#[]⟩, .int .i64 0, .int .i64 0], errV (imgE n v c)]) ∧ Below w.heap.size w w' := by
  have en := fun k w => err_neq k w
  have gn := fun o k w => err_guard_neq o k w
  obtain ⟨E, hE⟩ : ∃ E, imgE n v c = E := ⟨_, rfl⟩
  rw [hE] at hi ⊢
  have t : (E != 0) = true := by simp [hi]
  have HE := Lib.hid hE
  have HR := Lib.hid (new1 w n v c)
  clear hE hi
  go_enter Tryz.func32, Tryz.ntmps32
  go_wp2_with fail
  refine (imgCheck_any n v c _ hn hc).mono ?_
  rintro e w1 ⟨rfl, hb1⟩
  rw [HE.out]
  have R1 := HR.out.below hb1
  have cR := R1.cell
  have lR := R1.lt
  have fR := R1.frozen
  go_wp2_with fail
  exact bodyPost_ret (v := .tuple #[.agg #[.string ⟨#[]⟩, .int .i64 0, .string ⟨#[]⟩, .int .i64 0, .int .i64 0], errV E]) (ret_cell_tmp Tryz.results32 rfl (R1.fill5 (.string ⟨#[]⟩) (.int .i64 0) (.string ⟨#[]⟩) (.int .i64 0) (.int .i64 0)) Tryz.underlying76 rfl (by kernel_rfl)) rfl ⟨rfl, (by repeat (first | (with_reducible exact grow_refl _) | (with_reducible assumption) | (with_reducible refine grow_alloc ?_ _) | (with_reducible refine grow_set ?_ (by first | exact Nat.le_refl _ | (simp; done) | (simp; omega) | omega) _) | (with_reducible refine grow_drewN ?_ _) | (with_reducible refine grow_drew ?_) | (with_reducible refine grow_step ?_ (by assumption)) | (with_reducible refine grow_base ?_ (by assumption))))⟩

theorem okSign_is (x k : Int) (n : ByteArray) (v : Int) (c : ByteArray) : okSign x k (imgM n v c) = (okSecret x && okSecret k) := by
  unfold okSign; rw [imgM_ok, Bool.and_true]

set_option maxHeartbeats 1000000 in
theorem signMake_bad (x k : Int) (n : ByteArray) (v : Int) (c : ByteArray) (w : World) (hn : n.size ≤ 9000000000000000000) (hc : c.size ≤ 9000000000000000000) (hi : imgE n v c = 0) (ho : (okSecret x && okSecret k) = false) (ht : TabT w) :
    Calls Tryz.prog 32 #[.int .i64 x, .int .i64 k, .agg #[.string n, .int .i64 v, .string c]] w fun e w' => e = .returned (.tuple #[.agg #[.string ⟨#[]⟩, .int .i64 0, .string ⟨#[]⟩, .int .i64 0, .int .i64 0], errV 1]) ∧ Below w.heap.size w w' := by
  have en := fun k w => err_neq k w
  have gn := fun o k w => err_guard_neq o k w
  have HI := Lib.hid hi
  have HT := Lib.hid ht
  have hs : sgE x k (imgM n v c) = 1 ∧ sgP x k (imgM n v c) = 0 ∧ sgA x k (imgM n v c) = 0 := by
    unfold sgE sgP sgA; rw [okSign_is, ho]; exact ⟨rfl, rfl, rfl⟩
  have HS := Lib.hid hs
  have HB := Lib.hid ((Box.new w 74 #[.string n, .int .i64 v, .string c]).alloc_ (.cells #[.string ⟨#[]⟩, .int .i64 0, .string ⟨#[]⟩, .int .i64 0, .int .i64 0] 76))
  have HR := Lib.hid (new1 w n v c)
  clear hi ht ho hs
  go_enter Tryz.func32, Tryz.ntmps32
  go_wp2_with fail
  refine (imgCheck_any n v c _ hn hc).mono ?_
  rintro e w1 ⟨rfl, hb1⟩
  rw [HI.out]
  have hbw1 : Below w.heap.size w w1 := grow_step (grow_alloc (grow_alloc (grow_refl _) _) _) hb1
  have B1 := HB.out.below hb1
  have HR1 := Lib.hid (HR.out.below hb1)
  have cB := B1.cell
  have lB := B1.lt
  clear hb1 B1
  go_wp2_with fail
  refine (imgIs_any n v c _ HI.out (HT.out.below hbw1)).mono ?_
  rintro e w2 ⟨rfl, hb2⟩
  have HR2 := Lib.hid (HR1.out.below hb2)
  have hbw2 : Below w.heap.size w w2 := grow_step hbw1 hb2
  clear hb2 cB lB
  go_wp2_with fail
  refine (sign_any x k (imgM n v c) _).mono ?_
  rintro e w3 ⟨rfl, hb3⟩
  rw [HS.out.1, HS.out.2.1, HS.out.2.2]
  have R3 := (HR2.out.below hb3).alloc_ (.cells #[.int .i64 0, .int .i64 0] 48)
  have cR := R3.cell
  have lR := R3.lt
  have fR := R3.frozen
  have hbw3 : Below w.heap.size w w3 := grow_step hbw2 hb3
  clear hb3
  go_wp2_with fail
  exact bodyPost_ret (v := .tuple #[.agg #[.string ⟨#[]⟩, .int .i64 0, .string ⟨#[]⟩, .int .i64 0, .int .i64 0], errV 1]) (ret_cell_tmp Tryz.results32 rfl (R3.fill5 (.string ⟨#[]⟩) (.int .i64 0) (.string ⟨#[]⟩) (.int .i64 0) (.int .i64 0)) Tryz.underlying76 rfl (by kernel_rfl)) rfl ⟨rfl, (by repeat (first | (with_reducible exact grow_refl _) | (with_reducible assumption) | (with_reducible refine grow_alloc ?_ _) | (with_reducible refine grow_set ?_ (by first | exact Nat.le_refl _ | (simp; done) | (simp; omega) | omega) _) | (with_reducible refine grow_drewN ?_ _) | (with_reducible refine grow_drew ?_) | (with_reducible refine grow_step ?_ (by assumption)) | (with_reducible refine grow_base ?_ (by assumption))))⟩

set_option maxHeartbeats 1000000 in
theorem signMake_yes (x k : Int) (n : ByteArray) (v : Int) (c : ByteArray) (M : Int) (w : World) (hn : n.size ≤ 9000000000000000000) (hc : c.size ≤ 9000000000000000000) (hi : imgE n v c = 0) (hM : imgM n v c = M) (hx : okSecret x = true) (hk : okSecret k = true) (ht : TabT w) :
    Calls Tryz.prog 32 #[.int .i64 x, .int .i64 k, .agg #[.string n, .int .i64 v, .string c]] w fun e w' => e = .returned (.tuple #[.agg #[.string n, .int .i64 v, .string c, .int .i64 (pwI 64 k), .int .i64 (sealA x k M)], errV 0]) ∧ Below w.heap.size w w' := by
  have en := fun k w => err_neq k w
  have gn := fun o k w => err_guard_neq o k w
  have HI := Lib.hid hi
  have HT := Lib.hid ht
  have hs : sgE x k M = 0 ∧ sgP x k M = pwI 64 k ∧ sgA x k M = sealA x k M := by
    have ho : okSign x k M = true := by rw [← hM, okSign_is, hx, hk]; rfl
    unfold sgE sgP sgA; rw [ho]; exact ⟨rfl, rfl, rfl⟩
  have HS := Lib.hid hs
  have HM := Lib.hid hM
  obtain ⟨P, hP⟩ : ∃ P, pwI 64 k = P := ⟨_, rfl⟩
  obtain ⟨S, hS⟩ : ∃ S, sealA x k M = S := ⟨_, rfl⟩
  rw [hP, hS] at HS ⊢
  have HB := Lib.hid ((Box.new w 74 #[.string n, .int .i64 v, .string c]).alloc_ (.cells #[.string ⟨#[]⟩, .int .i64 0, .string ⟨#[]⟩, .int .i64 0, .int .i64 0] 76))
  have HR := Lib.hid (new1 w n v c)
  clear hi ht hs hM hx hk hP hS
  go_enter Tryz.func32, Tryz.ntmps32
  go_wp2_with fail
  refine (imgCheck_any n v c _ hn hc).mono ?_
  rintro e w1 ⟨rfl, hb1⟩
  rw [HI.out]
  have hbw1 : Below w.heap.size w w1 := grow_step (grow_alloc (grow_alloc (grow_refl _) _) _) hb1
  have HB1 := Lib.hid (HB.out.below hb1)
  have HR1 := Lib.hid (HR.out.below hb1)
  have cB := HB1.out.cell
  have lB := HB1.out.lt
  clear hb1
  go_wp2_with fail
  refine (imgIs_any n v c _ HI.out (HT.out.below hbw1)).mono ?_
  rintro e w2 ⟨rfl, hb2⟩
  rw [HM.out]
  have HB2 := Lib.hid (HB1.out.below hb2)
  have HR2 := Lib.hid (HR1.out.below hb2)
  have hbw2 : Below w.heap.size w w2 := grow_step hbw1 hb2
  clear hb2 cB lB
  go_wp2_with fail
  refine (sign_any x k M _).mono ?_
  rintro e w3 ⟨rfl, hb3⟩
  rw [HS.out.1, HS.out.2.1, HS.out.2.2]
  have R3 := (HR2.out.below hb3).alloc_ (.cells #[.int .i64 P, .int .i64 S] 48)
  have B3 := (HB2.out.below hb3).alloc_ (.cells #[.int .i64 P, .int .i64 S] 48)
  have cR := R3.cell
  have lR := R3.lt
  have fR := R3.frozen
  have cB := B3.cell
  have lB := B3.lt
  have hbw3 : Below w.heap.size w w3 := grow_step hbw2 hb3
  clear hb3
  go_wp2_with fail
  exact bodyPost_ret (v := .tuple #[.agg #[.string n, .int .i64 v, .string c, .int .i64 P, .int .i64 S], errV 0]) (ret_cell_tmp Tryz.results32 rfl (R3.fill5 (.string n) (.int .i64 v) (.string c) (.int .i64 P) (.int .i64 S)) Tryz.underlying76 rfl (by kernel_rfl)) rfl ⟨rfl, (by repeat (first | (with_reducible exact grow_refl _) | (with_reducible assumption) | (with_reducible refine grow_alloc ?_ _) | (with_reducible refine grow_set ?_ (by first | exact Nat.le_refl _ | (simp; done) | (simp; omega) | omega) _) | (with_reducible refine grow_drewN ?_ _) | (with_reducible refine grow_drew ?_) | (with_reducible refine grow_step ?_ (by assumption)) | (with_reducible refine grow_base ?_ (by assumption))))⟩

end Go.Proofs.YtkipjloapdolbaaGreatDoor
