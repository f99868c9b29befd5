/- sign: Check, Make. -/
import Derived.Test.YtkipjloapdolbaaGreatDoorRows
import Derived.Test.YtkipjloapdolbaaGreatDoorNum
import Derived.Test.YtkipjloapdolbaaGreatDoorBase
import Derived.Test.YtkipjloapdolbaaGreatDoorMeas
import Derived.Test.YtkipjloapdolbaaGreatDoorKey
import Derived.Test.YtkipjloapdolbaaGreatDoorImg
import Derived.Test.YtkipjloapdolbaaGreatDoorImg2
import Derived.WalkKit
import Derived.WalkSpells
import Derived.WalkLawsBesides
import Derived.Lib.Hide
import Derived.Deep.RegionHeld3
namespace Go.Proofs.YtkipjloapdolbaaGreatDoor
open Go.RowKit
set_option maxRecDepth 100000

def signE (q : Int) (n : ByteArray) (v : Int) (c : ByteArray) (p a : Int) : Int := if imgE n v c = 0 then rightE q (imgM n v c) p a else imgE n v c

set_option maxHeartbeats 2000000 in
theorem signCheck_any (q : Int) (n : ByteArray) (v : Int) (c : ByteArray) (p a : Int) (w : World) (hn : n.size ≤ 9000000000000000000) (hc : c.size ≤ 9000000000000000000) (ht : TabT w) :
    Calls Tryz.prog 33 #[.int .i64 q, .agg #[.string n, .int .i64 v, .string c, .int .i64 p, .int .i64 a]] w fun e w' => e = .returned (errV (signE q n v c p a)) ∧ Below w.heap.size w w' := by
  have en := fun k w => err_neq k w
  have gn := fun o k w => err_guard_neq o k w
  have B0 := Box.new w 76 #[.string n, .int .i64 v, .string c, .int .i64 p, .int .i64 a]
  have HB0 := Lib.hid B0
  have c0 := B0.cell
  have l0 := B0.lt
  have HT := Lib.hid ht
  clear ht B0
  obtain ⟨E, hE⟩ : ∃ E, imgE n v c = E := ⟨_, rfl⟩
  have HE := Lib.hid hE
  by_cases h0 : E = 0
  · have him : imgE n v c = 0 := by rw [hE, h0]
    have HIM := Lib.hid him
    have HS : Hid (signE q n v c p a = rightE q (imgM n v c) p a) := Lib.hid (by unfold signE; rw [if_pos him])
    obtain ⟨M, hM⟩ : ∃ M, imgM n v c = M := ⟨_, rfl⟩
    have HM := Lib.hid hM
    rw [hM] at HS
    obtain ⟨R, hR⟩ : ∃ R, rightE q M p a = R := ⟨_, rfl⟩
    have HR := Lib.hid hR
    rw [hR] at HS
    clear hE him hM hR
    subst h0
    go_enter Tryz.func33, Tryz.ntmps33
    go_wp2_with fail
    refine (imgCheck_any n v c _ hn hc).mono ?_
    rintro e w1 ⟨rfl, hb1⟩
    rw [HE.out]
    have hB1 : Below w.heap.size w w1 := grow_step (grow_alloc (grow_refl _) _) hb1
    have B1 := HB0.out.below hb1
    have b1 : Box w1.drew w.heap.size 76 #[.string n, .int .i64 v, .string c, .int .i64 p, .int .i64 a] := B1
    have hB1' := grow_drew hB1
    clear c0 l0 hb1 HB0
    go_wp2_with fail
    go_region_held3 (fun w' => (∀ i, w'.cell? ⟨w.heap.size, i, none⟩ = (#[.string n, .int .i64 v, .string c, .int .i64 p, .int .i64 a] : Array Value)[i]?) ∧ Box w' w.heap.size 76 #[.string n, .int .i64 v, .string c, .int .i64 p, .int .i64 a] ∧ Below w.heap.size w w')
      (first
        | exact ⟨E1.cell, E1, E3⟩
        | exact ⟨b1.cell, b1, hB1'⟩
        | (go_keep; done))
      (first
        | (go_at_call 58; go_split_ands; have p1 : Box _ w.heap.size 76 #[.string n, .int .i64 v, .string c, .int .i64 p, .int .i64 a] := (by assumption); have p3 : Below w.heap.size w _ := (by assumption); refine (imgIs_any n v c _ HIM.out (HT.out.below p3)).mono ?_; rintro e w3 ⟨rfl, hb3⟩; rw [HM.out]; have E1 := p1.below hb3; have E3 := grow_step p3 hb3; clear p1 p3)
        | (go_at_call 59; go_split_ands; have p1 : Box _ w.heap.size 76 #[.string n, .int .i64 v, .string c, .int .i64 p, .int .i64 a] := (by assumption); have p3 : Below w.heap.size w _ := (by assumption); refine (right_any q M p a _).mono ?_; rintro e w4 ⟨rfl, hb4⟩; rw [HR.out]; have E1 := p1.below hb4; have E3 := grow_step p3 hb4; clear p1 p3))
    go_wp2_with fail
    go_ret
    exact ⟨by rw [HS.out]; rfl, E3⟩
  · have HS : Hid (signE q n v c p a = E) := Lib.hid (by unfold signE; rw [hE, if_neg h0])
    have t : (E != 0) = true := by simp [h0]
    clear hE h0
    go_enter Tryz.func33, Tryz.ntmps33
    go_wp2_with fail
    refine (imgCheck_any n v c _ hn hc).mono ?_
    rintro e w1 ⟨rfl, hb1⟩
    rw [HE.out]
    go_wp2_with fail
    go_ret
    exact ⟨by rw [HS.out]; rfl, (by repeat (first | (with_reducible exact grow_refl _) | (with_reducible assumption) | (with_reducible refine grow_alloc ?_ _) | (with_reducible refine grow_set ?_ (by first | exact Nat.le_refl _ | (simp; done) | (simp; omega) | omega) _) | (with_reducible refine grow_drewN ?_ _) | (with_reducible refine grow_drew ?_) | (with_reducible refine grow_step ?_ (by assumption)) | (with_reducible refine grow_base ?_ (by assumption))))⟩

end Go.Proofs.YtkipjloapdolbaaGreatDoor
