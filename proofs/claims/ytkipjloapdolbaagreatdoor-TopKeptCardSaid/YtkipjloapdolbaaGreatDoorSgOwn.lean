/- What is signed by a secret is right by its key. -/
import Derived.Test.YtkipjloapdolbaaGreatDoorRows
import Derived.Test.YtkipjloapdolbaaGreatDoorNum
import Derived.Test.YtkipjloapdolbaaGreatDoorSeal
import Derived.Test.YtkipjloapdolbaaGreatDoorKey
import Derived.Test.YtkipjloapdolbaaGreatDoorImg
import Derived.Test.YtkipjloapdolbaaGreatDoorImg2
import Derived.Test.YtkipjloapdolbaaGreatDoorSign
import Derived.Test.YtkipjloapdolbaaGreatDoorBase
namespace Go.Proofs.YtkipjloapdolbaaGreatDoor
open Go.RowKit
set_option maxRecDepth 100000

theorem right_own (x k m : Int) (hx : okSecret x = true) (hk : okSecret k = true) (hm : okM m = true) : rightE (pwI 64 x) m (pwI 64 k) (sealA x k m) = 0 := by
  obtain ⟨x1, x2⟩ := okSecret_yes hx
  obtain ⟨k1, k2⟩ := okSecret_yes hk
  have i1 := key_in (x := x) (by omega) (by omega)
  have i2 := key_in (x := k) (by omega) (by omega)
  have hb := sealA_bd x k m
  unfold rightE okSeal
  have ha : okAns (sealA x k m) = true := decide_eq_true ⟨hb.1, hb.2⟩
  rw [i1, i2, hm, ha, seal_only x k m (sealA x k m) hx hk hb.1 hb.2]
  simp
theorem signE_own {x k : Int} {n : ByteArray} {v : Int} {c : ByteArray} (hx : okSecret x = true) (hk : okSecret k = true) (hi : imgE n v c = 0) : signE (pwI 64 x) n v c (pwI 64 k) (sealA x k (imgM n v c)) = 0 := by
  unfold signE
  rw [if_pos hi]
  exact right_own x k _ hx hk (imgM_ok _ _ _)

end Go.Proofs.YtkipjloapdolbaaGreatDoor
