/- stairtop.one: what is signed is right. A device's slots of one good image, in plain words. -/
import Derived.Test.YtdedllfgeekogaaDoorRows
import Derived.Test.YtdedllfgeekogaaDoorNum
import Derived.Test.YtdedllfgeekogaaDoorBase
import Derived.Test.YtdedllfgeekogaaDoorKey
import Derived.Test.YtdedllfgeekogaaDoorImg
import Derived.Test.YtdedllfgeekogaaDoorImg2
import Derived.Test.YtdedllfgeekogaaDoorSign
import Derived.Test.YtdedllfgeekogaaDoorSign2
import Derived.Test.YtdedllfgeekogaaDoorSlot
import Derived.Test.YtdedllfgeekogaaDoorSInv
import Derived.Test.YtdedllfgeekogaaDoorCntP
import Derived.Test.YtdedllfgeekogaaDoorUpdP
import Derived.Test.YtdedllfgeekogaaDoorDev
import Derived.Test.YtdedllfgeekogaaDoorLiftT
import Derived.WalkKit
import Derived.WalkSpells
import Derived.Lib.Hide
namespace Go.Proofs.YtdedllfgeekogaaDoor
open Go.RowKit
set_option maxRecDepth 100000
set_option linter.unusedSimpArgs false
set_option linter.unusedVariables false

set_option maxHeartbeats 1000000 in
theorem one_any (w : World) (ht : TabT w) : Calls Tryd.prog 7 #[] w fun e w' => e = .returned (.bool true) ∧ Below w.heap.size w w' := by
  have en := fun k w => err_neq k w
  have ee := fun k w => err_eql k w
  have gn := fun o k w => err_guard_neq o k w
  have ge := fun o k w => err_guard_eql o k w
  have HT := Lib.hid ht
  have k5 : okSecret 5 = true := by decide
  have k7 : okSecret 7 = true := by decide
  have hi : imgE ⟨#[111, 115]⟩ 1 ⟨#[]⟩ = 0 := by decide
  have HR := Lib.hid (signE_own (x := 5) (k := 7) k5 k7 hi)
  obtain ⟨MM, hMM⟩ : ∃ MM, imgM ⟨#[111, 115]⟩ 1 ⟨#[]⟩ = MM := ⟨_, rfl⟩
  have HM := Lib.hid hMM
  rw [hMM] at HR
  obtain ⟨S1, hS1⟩ : ∃ S, pwI 64 7 = S := ⟨_, rfl⟩
  obtain ⟨S2, hS2⟩ : ∃ S, sealA 5 7 MM = S := ⟨_, rfl⟩
  obtain ⟨Q, hQ⟩ : ∃ S, pwI 64 5 = S := ⟨_, rfl⟩
  have HS := Lib.hid (fun w ht => signMake_yes 5 7 ⟨#[111, 115]⟩ 1 ⟨#[]⟩ MM w (by decide) (by decide) hi hMM k5 k7 ht)
  rw [hS1, hS2, hQ] at HR
  rw [hS1, hS2] at HS
  have HP : Hid (pubM 5 = Q ∧ pubE 5 = 0) := Lib.hid ⟨by rw [pubM_yes k5, hQ], pubE_yes k5⟩
  clear ht hMM hS1 hS2 hQ hi
  go_enter Tryd.func7, Tryd.ntmps7
  go_wp2_with fail
  refine (HS.out _ HT.out).mono ?_
  rintro e w1 ⟨rfl, hb1⟩
  have HB := Lib.hid (Box.new w1 34 #[.string ⟨#[111, 115]⟩, .int .i64 1, .string ⟨#[]⟩, .int .i64 S1, .int .i64 S2])
  have hbw : Below w.heap.size w (w1.alloc (.cells #[.string ⟨#[111, 115]⟩, .int .i64 1, .string ⟨#[]⟩, .int .i64 S1, .int .i64 S2] 34)) := grow_alloc hb1 _
  have cB := HB.out.cell
  have lB := HB.out.lt
  go_wp2_with (go_at_call 8; refine (public_any 5 _).mono ?_; rintro e w' ⟨rfl, rfl⟩; rw [HP.out.1, HP.out.2])
  clear cB
  refine (signCheck_any Q ⟨#[111, 115]⟩ 1 ⟨#[]⟩ S1 S2 _ (by decide) (by decide) (HT.out.below hbw)).mono ?_
  rintro e w2 ⟨rfl, hb2⟩
  rw [HR.out]
  go_wp2_with fail
  go_ret
  exact ⟨rfl, grow_step hbw hb2⟩

/-! One good image in the slot that runs, the other one empty. -/
def oneS (r : Bool) (n : ByteArray) (v : Int) (c : ByteArray) (p a : Int) : Slts := if r then ⟨noSlt, ⟨n, v, c, p, a, true, 0, true⟩, true⟩ else ⟨⟨n, v, c, p, a, true, 0, true⟩, noSlt, false⟩
def twoS (r : Bool) (n : ByteArray) (v : Int) (c : ByteArray) (p a : Int) (n' : ByteArray) (v' : Int) (c' : ByteArray) (p' a' : Int) : Slts := if r then ⟨⟨n', v', c', p', a', true, 3, false⟩, ⟨n, v, c, p, a, true, 0, true⟩, true⟩ else ⟨⟨n, v, c, p, a, true, 0, true⟩, ⟨n', v', c', p', a', true, 3, false⟩, false⟩
def triS (r : Bool) (n : ByteArray) (v : Int) (c : ByteArray) (p a : Int) (n' : ByteArray) (v' : Int) (c' : ByteArray) (p' a' : Int) : Slts := if r then ⟨⟨n', v', c', p', a', true, 2, false⟩, ⟨n, v, c, p, a, true, 0, true⟩, false⟩ else ⟨⟨n, v, c, p, a, true, 0, true⟩, ⟨n', v', c', p', a', true, 2, false⟩, true⟩
section
variable (r : Bool) (n : ByteArray) (v : Int) (c : ByteArray) (p a : Int) (n' : ByteArray) (v' : Int) (c' : ByteArray) (p' a' : Int)
theorem oneS_pick : (oneS r n v c p a).pick = r := by cases r <;> rfl
theorem oneS_safe : (oneS r n v c p a).safe = r := by cases r <;> rfl
theorem oneS_at : (oneS r n v c p a).at_ r = ⟨n, v, c, p, a, true, 0, true⟩ := by cases r <;> rfl
theorem oneS_r : (oneS r n v c p a).r = r := by cases r <;> rfl
theorem oneS_start : startS (oneS r n v c p a) = oneS r n v c p a := by cases r <;> rfl
theorem twoS_pick : (twoS r n v c p a n' v' c' p' a').pick = !r := by cases r <;> rfl
theorem twoS_safe : (twoS r n v c p a n' v' c' p' a').safe = r := by cases r <;> rfl
theorem twoS_at : (twoS r n v c p a n' v' c' p' a').at_ (!r) = ⟨n', v', c', p', a', true, 3, false⟩ := by cases r <;> rfl
theorem twoS_start : startS (twoS r n v c p a n' v' c' p' a') = triS r n v c p a n' v' c' p' a' := by cases r <;> rfl
theorem triS_g : ((triS r n v c p a n' v' c' p' a').at_ (triS r n v c p a n' v' c' p' a').r).g = false := by cases r <;> rfl
theorem triS_good : goodS (triS r n v c p a n' v' c' p' a') = oneS (!r) n' v' c' p' a' := by cases r <;> rfl
theorem put_oneS (h : imgE n' v' c' = 0) : putS (oneS r n v c p a) n' v' c' p' a' = twoS r n v c p a n' v' c' p' a' := by
  unfold putS
  rw [if_pos h]
  cases r <;> rfl
theorem putE_oneS (h : imgE n' v' c' = 0) : putE (oneS r n v c p a) n' v' c' = 0 := by
  unfold putE
  rw [h]
  cases r <;> rfl
end
/-- What an update comes to, signed by the last key, of the same name. -/
theorem do_oneS {root Q : Int} {cs : List (Int × Int × Int)} {ls : List Cnt} {r : Bool} {n : ByteArray} {v : Int} {c : ByteArray} {p a : Int} {v' : Int} {p' a' : Int} (hc : certLast root cs = (Q, 0)) (h0 : imgE n v c = 0) (h1 : imgE n v' c = 0) (hs : signE Q n v' c p' a' = 0) (hl : ofL ls n.data.toList ≤ v) :
    doE root cs ls (oneS r n v c p a) (n, v', c, p', a') = (if v < v' then 0 else 9) ∧ doS root cs ls (oneS r n v c p a) (n, v', c, p', a') = (if v < v' then twoS r n v c p a n v' c p' a' else oneS r n v c p a) := by
  obtain ⟨k1, k2, k3⟩ := imgE_zero h1
  have hu : updE root cs ls ((oneS r n v c p a).at_ (oneS r n v c p a).safe).sg (n, v', c, p', a') = if v < v' then 0 else 9 := by
    rw [oneS_safe, oneS_at]
    unfold updE
    rw [hc]
    show (if (0 : Int) = 0 then (if signE Q n v' c p' a' = 0 then _ else _) else _) = _
    rw [if_pos rfl, if_pos hs]
    unfold upE2 Slt.sg
    show (if imgE n v c = 0 then (if n.data.toList = n.data.toList then (if v' ≤ v then 9 else mayL ls n v') else 3) else _) = _
    rw [if_pos h0, if_pos rfl]
    by_cases hv : v < v'
    · rw [if_pos hv, if_neg (by omega)]
      unfold mayL
      rw [if_pos k1, if_neg (by omega), if_neg (by omega)]
    · rw [if_neg hv, if_pos (by omega)]
  unfold doE doS
  rw [hu]
  by_cases hv : v < v'
  · rw [if_pos hv, if_pos hv, if_pos rfl, if_pos rfl]
    exact ⟨putE_oneS r n v c p a n v' c h1, put_oneS r n v c p a n v' c p' a' h1⟩
  · rw [if_neg hv, if_neg hv, if_neg (by decide), if_neg (by decide)]
    exact ⟨rfl, rfl⟩
theorem raise_oneS {ls : List Cnt} {N : List UInt8} {n : ByteArray} {v g : Int} {c : ByteArray} (hL : LsN N ls) (hi : imgE n v c = 0) (hn : n.data.toList = N) (h1 : ofL ls N ≤ g) (h2 : g < v) : ofL (raiseL ls n v) N ≤ v := by
  obtain ⟨k1, k2, k3⟩ := imgE_zero hi
  have hv : ¬ (v < 0 ∨ 1000 < v) := by omega
  unfold raiseL
  rw [if_pos k1, if_neg hv, hn, if_neg (by omega)]
  rcases hL with rfl | ⟨s, x, rfl, hs⟩
  · rw [show hasL [] N = false from rfl]
    show ofL ([] ++ [(n, v)]) N ≤ v
    show (if n.data.toList = N then v else 0) ≤ v
    rw [if_pos hn]; omega
  · rw [show hasL [(s, x)] N = true by show (s.data.toList == N || _) = true; rw [hs]; simp, if_pos rfl]
    rw [show setL [(s, x)] N v = [(s, v)] by show (if s.data.toList = N then _ else _) = _; rw [if_pos hs]]
    show (if s.data.toList = N then v else 0) ≤ v
    rw [if_pos hs]; omega

end Go.Proofs.YtdedllfgeekogaaDoor
