/- A device's slots with an image on trial, in plain words; what is closed by one register. -/
import Derived.Test.YtdedllfgeekogaaGreatDoorRows
import Derived.Test.YtdedllfgeekogaaGreatDoorNum
import Derived.Test.YtdedllfgeekogaaGreatDoorBase
import Derived.Test.YtdedllfgeekogaaGreatDoorImg
import Derived.Test.YtdedllfgeekogaaGreatDoorImg2
import Derived.Test.YtdedllfgeekogaaGreatDoorSign
import Derived.Test.YtdedllfgeekogaaGreatDoorSign2
import Derived.Test.YtdedllfgeekogaaGreatDoorSlot
import Derived.Test.YtdedllfgeekogaaGreatDoorSInv
import Derived.Test.YtdedllfgeekogaaGreatDoorCntP
import Derived.Test.YtdedllfgeekogaaGreatDoorUpdP
import Derived.Test.YtdedllfgeekogaaGreatDoorDev
import Derived.Test.YtdedllfgeekogaaGreatDoorTop
import Derived.Test.YtdedllfgeekogaaGreatDoorDigPlain
import Derived.WalkKit
import Derived.DeepKeys
import Derived.WalkArith
namespace Go.Proofs.YtdedllfgeekogaaGreatDoor
open Go.RowKit
set_option maxRecDepth 100000
set_option linter.unusedSimpArgs false
set_option linter.unusedVariables false

theorem eqIm2 (n : ByteArray) (v : Int) (c : ByteArray) (hn : n.size ≤ 140737488351232) (hc : c.size ≤ 140737488351232) (iv : I64 v) (w : World) : (binOp .eql 23 (.agg #[.string n, .int .i64 v, .string c]) (.agg #[.string n, .int .i64 v, .string c])).run Tryz.prog w = .ok (.bool true) w := by
  have k := imLits n v c hn hc iv
  have f : Value.formed Tryz.prog 23 (.agg #[.string n, .int .i64 v, .string c]) = true := by
    have c1 : Program.cellsOf Tryz.prog 23 = 3 := by kernel_rfl
    simp [Value.formed, Tryz.underlying23, c1]
  obtain ⟨r, hr, hi⟩ := run_equalIn_deep (P := Tryz.prog) 9998 2 23 (by kernel_rfl) w 2 2 (.agg #[.string n, .int .i64 v, .string c]) (.agg #[.string n, .int .i64 v, .string c]) _ _ f f (by simpa [Value.cells] using k) (by simpa [Value.cells] using k)
  rw [hi.2 rfl] at hr
  have hr' : (Op.equalIn 10000 23 (.agg #[.string n, .int .i64 v, .string c]) (.agg #[.string n, .int .i64 v, .string c])).run Tryz.prog w = .ok true w := hr
  rw [run_eql_struct, hr']; rfl

/-- The first image good, the next one on trial, t tries left; q: which one runs. -/
def z2 (t : Int) (q : Bool) (n : ByteArray) (v : Int) (c : ByteArray) (p a : Int) (n' : ByteArray) (v' : Int) (c' : ByteArray) (p' a' : Int) : Slts := ⟨⟨n, v, c, p, a, true, 0, true⟩, ⟨n', v', c', p', a', true, t, false⟩, q⟩
section
variable (n : ByteArray) (v : Int) (c : ByteArray) (p a : Int) (n' : ByteArray) (v' : Int) (c' : ByteArray) (p' a' : Int)
theorem z2_two : twoS false n v c p a n' v' c' p' a' = z2 3 false n v c p a n' v' c' p' a' := rfl
theorem z2_pick3 : (z2 3 false n v c p a n' v' c' p' a').pick = true := rfl
theorem z2_safe3 : (z2 3 false n v c p a n' v' c' p' a').safe = false := rfl
theorem z2_at3 : (z2 3 false n v c p a n' v' c' p' a').at_ true = ⟨n', v', c', p', a', true, 3, false⟩ := rfl
theorem z2_start3 : startS (z2 3 false n v c p a n' v' c' p' a') = z2 2 true n v c p a n' v' c' p' a' := rfl
theorem z2_pick2 : (z2 2 true n v c p a n' v' c' p' a').pick = true := rfl
theorem z2_at2 : (z2 2 true n v c p a n' v' c' p' a').at_ true = ⟨n', v', c', p', a', true, 2, false⟩ := rfl
theorem z2_start2 : startS (z2 2 true n v c p a n' v' c' p' a') = z2 1 true n v c p a n' v' c' p' a' := rfl
theorem z2_pick1 : (z2 1 true n v c p a n' v' c' p' a').pick = true := rfl
theorem z2_at1 : (z2 1 true n v c p a n' v' c' p' a').at_ true = ⟨n', v', c', p', a', true, 1, false⟩ := rfl
theorem z2_start1 : startS (z2 1 true n v c p a n' v' c' p' a') = z2 0 true n v c p a n' v' c' p' a' := rfl
theorem z2_pick0 : (z2 0 true n v c p a n' v' c' p' a').pick = false := rfl
theorem z2_safe0 : (z2 0 true n v c p a n' v' c' p' a').safe = false := rfl
theorem z2_at0 : (z2 0 true n v c p a n' v' c' p' a').at_ false = ⟨n, v, c, p, a, true, 0, true⟩ := rfl
end
theorem do_oneN {root Q : Int} {cs : List (Int × Int × Int)} {n : ByteArray} {v : Int} {c : ByteArray} {p a : Int} {n' : ByteArray} {v' : Int} {c' : ByteArray} {p' a' : Int} (hc : certLast root cs = (Q, 0)) (h0 : imgE n v c = 0) (h1 : imgE n' v' c' = 0) (hs : signE Q n' v' c' p' a' = 0) :
    doE root cs [] (oneS false n v c p a) (n', v', c', p', a') = (if n'.data.toList = n.data.toList then (if v < v' then 0 else 9) else 3) ∧ doS root cs [] (oneS false n v c p a) (n', v', c', p', a') = (if n'.data.toList = n.data.toList then (if v < v' then twoS false n v c p a n' v' c' p' a' else oneS false n v c p a) else oneS false n v c p a) := by
  obtain ⟨k1, k2, k3⟩ := imgE_zero h1
  have hu : updE root cs [] ((oneS false n v c p a).at_ (oneS false n v c p a).safe).sg (n', v', c', p', a') = if n'.data.toList = n.data.toList then (if v < v' then 0 else 9) else 3 := by
    rw [oneS_safe, oneS_at]
    unfold updE
    rw [hc]
    show (if (0 : Int) = 0 then (if signE Q n' v' c' p' a' = 0 then _ else _) else _) = _
    rw [if_pos rfl, if_pos hs]
    unfold upE2 Slt.sg
    show (if imgE n v c = 0 then (if n'.data.toList = n.data.toList then (if v' ≤ v then 9 else mayL [] n' v') else 3) else _) = _
    rw [if_pos h0]
    by_cases hnm : n'.data.toList = n.data.toList
    · rw [if_pos hnm, if_pos hnm]
      by_cases hv : v < v'
      · rw [if_pos hv, if_neg (by omega)]
        unfold mayL
        rw [if_pos k1, if_neg (by omega)]
        show (if v' < 0 then (9 : Int) else 0) = 0
        rw [if_neg (by omega)]
      · rw [if_neg hv, if_pos (by omega)]
    · rw [if_neg hnm, if_neg hnm]
  unfold doE doS
  rw [hu]
  by_cases hnm : n'.data.toList = n.data.toList
  · rw [if_pos hnm, if_pos hnm]
    by_cases hv : v < v'
    · rw [if_pos hv, if_pos hv, if_pos rfl, if_pos rfl]
      exact ⟨putE_oneS false n v c p a n' v' c' h1, put_oneS false n v c p a n' v' c' p' a' h1⟩
    · rw [if_neg hv, if_neg hv, if_neg (by decide), if_neg (by decide)]
      exact ⟨rfl, rfl⟩
  · rw [if_neg hnm, if_neg hnm, if_neg (by decide), if_neg (by decide)]
    exact ⟨rfl, rfl⟩
theorem bytes_eq {a b : ByteArray} (h : a.data.toList = b.data.toList) : a = b := by
  cases a; cases b
  simp only at h
  congr 1
  exact Array.toList_inj.1 h
theorem told_one1 (P : Int) : toldM [P, 0, 0, 0, 0, 0, 0, 0] 1 = [P] := rfl
theorem pair0_inj {a b : Int} (ha : okM a = true) (hb : okM b = true) (h : pairM 0 a = pairM 0 b) : a = b := by
  obtain ⟨a1, a2⟩ := okM_yes ha
  obtain ⟨b1, b2⟩ := okM_yes hb
  unfold pairM at h
  omega
theorem is_one1 {P R : Int} (hp : okM P = true) (hr : okM R = true) : (isM [P, 0, 0, 0, 0, 0, 0, 0] 1 = isM [R, 0, 0, 0, 0, 0, 0, 0] 1) ↔ P = R := by
  unfold isM
  rw [told_one1, told_one1]
  constructor
  · intro h
    exact pair0_inj hp hr h
  · intro h; rw [h]
end Go.Proofs.YtdedllfgeekogaaGreatDoor
