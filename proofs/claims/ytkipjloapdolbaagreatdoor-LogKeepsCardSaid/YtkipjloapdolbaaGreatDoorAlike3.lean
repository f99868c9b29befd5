/- stairlaw3.alike: a log has what counts have. -/
import Derived.Test.YtkipjloapdolbaaGreatDoorRows
import Derived.Test.YtkipjloapdolbaaGreatDoorNum
import Derived.Test.YtkipjloapdolbaaGreatDoorBase
import Derived.Test.YtkipjloapdolbaaGreatDoorApp
import Derived.Test.YtkipjloapdolbaaGreatDoorFoot
import Derived.Test.YtkipjloapdolbaaGreatDoorImg
import Derived.Test.YtkipjloapdolbaaGreatDoorTold
import Derived.Test.YtkipjloapdolbaaGreatDoorRefI
import Derived.Test.YtkipjloapdolbaaGreatDoorOpStr
import Derived.Test.YtkipjloapdolbaaGreatDoorCntP
import Derived.Test.YtkipjloapdolbaaGreatDoorCntR
import Derived.Test.YtkipjloapdolbaaGreatDoorLogR
import Derived.Test.YtkipjloapdolbaaGreatDoorLogQ
import Derived.WalkKit
import Derived.WalkSpells
import Derived.Lib.Hide
namespace Go.Proofs.YtkipjloapdolbaaGreatDoor
open Go.RowKit
set_option maxRecDepth 100000
set_option linter.unusedSimpArgs false
set_option linter.unusedVariables false

set_option maxHeartbeats 2000000 in
theorem alike_any {T : Nat → Prop} {w0 : World} (w : World) (g N : Nat) (L : Lg) (p : Nat) (A : Option Addr) (ns : List ByteArray) (cn : Nat) (h : LogAt T w0 w g N L) (hr : RCnt w p (raisedL L.recs)) (hs : StrsAt w A ns) (hl : ns.length * 16 ≤ 140737488351232) (hns : ∀ i, i < ns.length → (ns.getD i ⟨#[]⟩).size ≤ 140737488351232) (hd : Door w) :
    Calls Tryz.prog 16 #[.pointer (some ⟨g, 0, none⟩), .pointer (some ⟨p, 0, none⟩), .slice A ns.length cn] w fun e w' => e = .returned (.bool true) ∧ Below w.heap.size w w' := by
  have en := fun k w => err_neq k w
  have gn := fun o k w => err_guard_neq o k w
  have HL := Lib.hid h
  have HR := Lib.hid hr
  have HS := Lib.hid hs
  have HN := Lib.hid hns
  have HD := Lib.hid hd
  clear h hr hs hns hd
  go_enter Tryz.func16, Tryz.ntmps16
  go_wp2_with fail
  go_loopw [7, 8, 9, 10, 11] (fun i _ _ _ _ wr => ∃ k : Nat, i = .int .i64 k ∧ k ≤ ns.length ∧ Below w.heap.size w wr) (fun i _ _ _ _ _ => ns.length - (intOf i).toNat)
  case atStart => exact ⟨0, rfl, by omega, grow_refl _⟩
  case round =>
    obtain ⟨k, rfl, hk, hb⟩ := hrel
    by_cases c1 : k < ns.length
    rotate_left
    · have g1 : ¬ (k : Int) < (ns.length : Int) := by omega
      go_wp2_with fail
      go_ret
      exact ⟨rfl, hb⟩
    have g1 : (k : Int) < (ns.length : Int) := by omega
    obtain ⟨bn, on, rfl, lbn, hcn⟩ := HS.out k c1
    have hz := HN.out k c1
    obtain ⟨nm, hnm⟩ : ∃ z, ns.getD k ⟨#[]⟩ = z := ⟨_, rfl⟩
    rw [hnm] at hcn hz
    have HCN := Lib.hid hcn
    have HZ := Lib.hid hz
    have HLK := Lib.hid (lgLeast_at nm (HL.out.below hb) hz)
    have HC := Lib.hid (fun w' (hb : Below w.heap.size w w') => (hb.cell (p := ⟨bn, on + k, none⟩) lbn).trans HCN.out)
    have cN := HC.out _ hb
    have lN := Nat.lt_of_lt_of_le lbn hb.size
    obtain ⟨V, hV⟩ : ∃ V, ofL (raisedL L.recs) nm.data.toList = V := ⟨_, rfl⟩
    rw [hV] at HLK
    have HV := Lib.hid hV
    clear hcn hnm hz c1 hV
    cases hok : okName nm
    · rw [hok, if_neg (by decide), if_neg (by decide)] at HLK
      go_wp2_with fail
      refine (rName_any nm _ (by have := HZ.out; omega)).mono ?_
      rintro e w1 ⟨rfl, rfl⟩
      rw [hok]
      go_wp2_with fail
      refine HLK.out.mono ?_
      rintro e w2 ⟨rfl, hb2⟩
      have hw2 : Below w.heap.size w w2 := grow_step hb hb2
      clear HLK hb2 cN lN
      go_wp2_with fail
      refine (error_any 3 3 _ (HD.out.below hw2) (by constructor <;> decide)).mono ?_
      rintro e w3 ⟨rfl, hb3⟩
      have hw3 : Below w.heap.size w w3 := grow_step hw2 hb3
      go_wp2_with fail
      go_roundw
      case rel => exact ⟨k + 1, rfl, by omega, hw3⟩
      case measure => simp only [intOf]; omega
    · rw [hok, if_pos rfl, if_pos rfl] at HLK
      go_wp2_with fail
      refine (rName_any nm _ (by have := HZ.out; omega)).mono ?_
      rintro e w1 ⟨rfl, rfl⟩
      rw [hok]
      go_wp2_with fail
      refine HLK.out.mono ?_
      rintro e w2 ⟨rfl, hb2⟩
      have hw2 : Below w.heap.size w w2 := grow_step hb hb2
      have cN2 := HC.out _ hw2
      have lN2 := Nat.lt_of_lt_of_le lbn hw2.size
      clear HLK hb2 cN lN
      go_wp2_with fail
      refine (rOf_any p _ nm _ (HR.out.below hw2) (raisedL_len _)).mono ?_
      rintro e w3 ⟨rfl, rfl⟩
      rw [HV.out]
      go_wp2_with fail
      go_roundw
      case rel => exact ⟨k + 1, rfl, by omega, hw2⟩
      case measure => simp only [intOf]; omega

end Go.Proofs.YtkipjloapdolbaaGreatDoor
