/- count: names that are none; the reference's Name. -/
import Derived.Test.YtflhbnaocognlaaGreatDoorCount2
import Derived.WalkKit
import Derived.WalkSpells
import Derived.WalkLawsBesides
import Derived.Lib.Hide
import Derived.Maps.OwnSet
import Derived.Maps.OwnOps
import Derived.Maps.Views
import Derived.OwnWalk
import Derived.StringKeys
namespace Go.Proofs.YtflhbnaocognlaaGreatDoor
open Go.RowKit Go.Maps Go.WideMaps
set_option maxRecDepth 100000
set_option linter.unusedSimpArgs false

set_option maxHeartbeats 4000000 in
theorem raise_bad (base g n : Nat) (h : List UInt8 → Bool) (v : List UInt8 → Int) (m : Nat) (s : ByteArray) (x : Int) (w : World) (hC : CountIs base w g n h v m) (hs : okName s = false) (hz : s.size ≤ 140737488351232) :
    Calls Tryz.prog 5 #[.pointer (some ⟨g, 0, none⟩), .string s, .int .i64 x] w fun e w' => e = .returned (.tuple #[.bool false, errV 3]) ∧ Below w.heap.size w w' := by
  obtain ⟨b, D, hB, hO, hR, _⟩ := hC
  have HO := Lib.hid hO
  have HS := Lib.hid hs
  have hkey := keyOf_string_mk (P := Tryz.prog) Tryz.underlying9 (s := s) (by unfold maxLen; omega)
  have cB := hB.cell
  have lB := hB.lt
  clear hR hB hO hs
  go_enter Tryz.func5, Tryz.ntmps5
  go_wp2_with (at_lookup; refine wpList_lookup_own_ok_int _ rfl _ _ 66 rfl 9 3 .i64 lawS mapU Tryz.underlying3 (zeroI _) b n D rfl HO.out _ _ rfl hkey ?_; intro cc hat hwc)
  clear hat hwc
  refine (imgName_any s _ (by omega)).mono ?_
  rintro e w1 ⟨rfl, hb1⟩
  rw [HS.out]
  go_wp2_with fail
  go_ret2
  exact ⟨rfl, hb1⟩

set_option maxHeartbeats 4000000 in
theorem may_bad (c : Value) (s : ByteArray) (x : Int) (w : World) (hs : okName s = false) (hz : s.size ≤ 140737488351232) :
    Calls Tryz.prog 28 #[c, .string s, .int .i64 x] w fun e w' => e = .returned (errV 3) ∧ Below w.heap.size w w' := by
  have HS := Lib.hid hs
  clear hs
  go_enter Tryz.func28, Tryz.ntmps28
  go_wp2_with fail
  refine (imgName_any s _ (by omega)).mono ?_
  rintro e w1 ⟨rfl, hb1⟩
  rw [HS.out]
  go_wp2_with fail
  go_ret
  exact ⟨rfl, hb1⟩

end Go.Proofs.YtflhbnaocognlaaGreatDoor
