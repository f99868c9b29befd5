/- stairtop.one: what is signed is right. -/
import Derived.Test.YtkipjloapdolbaaGreatDoorRows
import Derived.Test.YtkipjloapdolbaaGreatDoorSgOwn
import Derived.Test.YtkipjloapdolbaaGreatDoorNum
import Derived.Test.YtkipjloapdolbaaGreatDoorBase
import Derived.Test.YtkipjloapdolbaaGreatDoorKey
import Derived.Test.YtkipjloapdolbaaGreatDoorImg
import Derived.Test.YtkipjloapdolbaaGreatDoorImg2
import Derived.Test.YtkipjloapdolbaaGreatDoorSign
import Derived.Test.YtkipjloapdolbaaGreatDoorSign2
import Derived.Test.YtkipjloapdolbaaGreatDoorLiftT
import Derived.WalkKit
import Derived.WalkSpells
import Derived.Lib.Hide
namespace Go.Proofs.YtkipjloapdolbaaGreatDoor
open Go.RowKit
set_option maxRecDepth 100000
set_option linter.unusedSimpArgs false
set_option linter.unusedVariables false

set_option maxHeartbeats 1000000 in
theorem one_any (w : World) (ht : TabT w) : Calls Tryz.prog 17 #[] w fun e w' => e = .returned (.bool true) ∧ Below w.heap.size w w' := by
  have en := fun k w => err_neq k w
  have ee := fun k w => err_eql k w
  have gn := fun o k w => err_guard_neq o k w
  have ge := fun o k w => err_guard_eql o k w
  have HT := Lib.hid ht
  have k5 : okSecret 5 = true := by decide
  have k7 : okSecret 7 = true := by decide
  have hi : imgE ⟨#[111, 115]⟩ 1 ⟨#[]⟩ = 0 := by decide
  have HR := Lib.hid (signE_own (x := 5) (k := 7) k5 k7 hi)
  obtain ⟨MM, hMM⟩ : ∃ MM, imgM ⟨#[111, 115]⟩ 1 ⟨#[]⟩ = MM := ⟨_, rfl⟩
  have HM := Lib.hid hMM
  rw [hMM] at HR
  obtain ⟨S1, hS1⟩ : ∃ S, pwI 64 7 = S := ⟨_, rfl⟩
  obtain ⟨S2, hS2⟩ : ∃ S, sealA 5 7 MM = S := ⟨_, rfl⟩
  obtain ⟨Q, hQ⟩ : ∃ S, pwI 64 5 = S := ⟨_, rfl⟩
  have HS := Lib.hid (fun w ht => signMake_yes 5 7 ⟨#[111, 115]⟩ 1 ⟨#[]⟩ MM w (by decide) (by decide) hi hMM k5 k7 ht)
  rw [hS1, hS2, hQ] at HR
  rw [hS1, hS2] at HS
  have HP : Hid (pubM 5 = Q ∧ pubE 5 = 0) := Lib.hid ⟨by rw [pubM_yes k5, hQ], pubE_yes k5⟩
  clear ht hMM hS1 hS2 hQ hi
  go_enter Tryz.func17, Tryz.ntmps17
  go_wp2_with fail
  refine (HS.out _ HT.out).mono ?_
  rintro e w1 ⟨rfl, hb1⟩
  have HB := Lib.hid (Box.new w1 76 #[.string ⟨#[111, 115]⟩, .int .i64 1, .string ⟨#[]⟩, .int .i64 S1, .int .i64 S2])
  have hbw : Below w.heap.size w (w1.alloc (.cells #[.string ⟨#[111, 115]⟩, .int .i64 1, .string ⟨#[]⟩, .int .i64 S1, .int .i64 S2] 76)) := grow_alloc hb1 _
  have cB := HB.out.cell
  have lB := HB.out.lt
  go_wp2_with (go_at_call 19; refine (public_any 5 _).mono ?_; rintro e w' ⟨rfl, rfl⟩; rw [HP.out.1, HP.out.2])
  clear cB
  refine (signCheck_any Q ⟨#[111, 115]⟩ 1 ⟨#[]⟩ S1 S2 _ (by decide) (by decide) (HT.out.below hbw)).mono ?_
  rintro e w2 ⟨rfl, hb2⟩
  rw [HR.out]
  go_wp2_with fail
  go_ret
  exact ⟨rfl, grow_step hbw hb2⟩

/-! One good image in the slot that runs, the other one empty. -/

end Go.Proofs.YtkipjloapdolbaaGreatDoor
