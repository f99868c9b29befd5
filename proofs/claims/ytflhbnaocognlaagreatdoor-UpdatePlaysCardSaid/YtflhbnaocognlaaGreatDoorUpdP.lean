/- update, in plain words: what is wrong with an update, and what it comes to. -/
import Derived.Test.YtflhbnaocognlaaGreatDoorRows
import Derived.Test.YtflhbnaocognlaaGreatDoorNum
import Derived.Test.YtflhbnaocognlaaGreatDoorSeal
import Derived.Test.YtflhbnaocognlaaGreatDoorKey
import Derived.Test.YtflhbnaocognlaaGreatDoorOpI
import Derived.Test.YtflhbnaocognlaaGreatDoorImg
import Derived.Test.YtflhbnaocognlaaGreatDoorImg2
import Derived.Test.YtflhbnaocognlaaGreatDoorSign
import Derived.Test.YtflhbnaocognlaaGreatDoorBds
import Derived.Test.YtflhbnaocognlaaGreatDoorSlot
import Derived.Test.YtflhbnaocognlaaGreatDoorSInv
import Derived.Test.YtflhbnaocognlaaGreatDoorCntP
import Derived.Test.YtflhbnaocognlaaGreatDoorCntC
namespace Go.Proofs.YtflhbnaocognlaaGreatDoor
open Go.RowKit
set_option maxRecDepth 100000

def newE (na : ByteArray) (va : Int) (ca : ByteArray) (nb : ByteArray) (vb : Int) (cb : ByteArray) : Int :=
  if imgE na va ca = 0 then (if imgE nb vb cb = 0 then (if na.data.toList = nb.data.toList then 0 else 3) else imgE nb vb cb) else imgE na va ca
def newB (na : ByteArray) (va : Int) (ca : ByteArray) (nb : ByteArray) (vb : Int) (cb : ByteArray) : Bool := decide (newE na va ca nb vb cb = 0) && decide (vb < va)
/-- o: what is there; z: what comes next. -/
def upE2 (ls : List Cnt) (o z : Sgn) : Int :=
  if imgE o.1 o.2.1 o.2.2.1 = 0 then (if z.1.data.toList = o.1.data.toList then (if z.2.1 ≤ o.2.1 then 9 else mayL ls z.1 z.2.1) else 3) else imgE o.1 o.2.1 o.2.2.1
def updE (root : Int) (cs : List (Int × Int × Int)) (ls : List Cnt) (o z : Sgn) : Int :=
  if (certLast root cs).2 = 0 then (if signE (certLast root cs).1 z.1 z.2.1 z.2.2.1 z.2.2.2.1 z.2.2.2.2 = 0 then upE2 ls o z else signE (certLast root cs).1 z.1 z.2.1 z.2.2.1 z.2.2.2.1 z.2.2.2.2) else (certLast root cs).2
theorem signE_img {q : Int} {n : ByteArray} {v : Int} {c : ByteArray} {p a : Int} (h : signE q n v c p a = 0) : imgE n v c = 0 := by
  unfold signE at h
  split at h
  · assumption
  · exact absurd h (by assumption)
theorem newE_of {q : Int} {n : ByteArray} {v : Int} {c : ByteArray} {p a : Int} (h : signE q n v c p a = 0) (nb : ByteArray) (vb : Int) (cb : ByteArray) : newE n v c nb vb cb = if imgE nb vb cb = 0 then (if n.data.toList = nb.data.toList then 0 else 3) else imgE nb vb cb := by
  unfold newE; rw [if_pos (signE_img h)]
theorem signE_bd_ (q : Int) (n : ByteArray) (v : Int) (c : ByteArray) (p a : Int) : I64 (signE q n v c p a) := by
  unfold signE; split
  · exact rightE_bd _ _ _ _
  · exact imgE_bd _ _ _
theorem updE_bd (root : Int) (cs : List (Int × Int × Int)) (ls : List Cnt) (o z : Sgn) : I64 (updE root cs ls o z) := by
  unfold updE upE2
  split
  · split
    · split
      · split
        · split
          · exact ⟨by decide, by decide⟩
          · exact mayL_bd _ _ _
        · exact ⟨by decide, by decide⟩
      · exact imgE_bd _ _ _
    · exact signE_bd_ _ _ _ _ _ _
  · exact certLast_bd _ _
theorem right_own (x k m : Int) (hx : okSecret x = true) (hk : okSecret k = true) (hm : okM m = true) : rightE (pwI 64 x) m (pwI 64 k) (sealA x k m) = 0 := by
  obtain ⟨x1, x2⟩ := okSecret_yes hx
  obtain ⟨k1, k2⟩ := okSecret_yes hk
  have i1 := key_in (x := x) (by omega) (by omega)
  have i2 := key_in (x := k) (by omega) (by omega)
  have hb := sealA_bd x k m
  unfold rightE okSeal
  have ha : okAns (sealA x k m) = true := decide_eq_true ⟨hb.1, hb.2⟩
  rw [i1, i2, hm, ha, seal_only x k m (sealA x k m) hx hk hb.1 hb.2]
  simp
theorem signE_own {x k : Int} {n : ByteArray} {v : Int} {c : ByteArray} (hx : okSecret x = true) (hk : okSecret k = true) (hi : imgE n v c = 0) : signE (pwI 64 x) n v c (pwI 64 k) (sealA x k (imgM n v c)) = 0 := by
  unfold signE
  rw [if_pos hi]
  exact right_own x k _ hx hk (imgM_ok _ _ _)
theorem certLast_nil {q : Int} (h : okIn q = true) : certLast q [] = (q, 0) := by unfold certLast; rw [if_neg (by simp), h]; rfl
theorem okIn_own {x : Int} (hx : okSecret x = true) : okIn (pwI 64 x) = true := by
  obtain ⟨x1, x2⟩ := okSecret_yes hx
  exact key_in (x := x) (by omega) (by omega)
theorem updE_same {x k : Int} {n : ByteArray} {v : Int} {c : ByteArray} (hx : okSecret x = true) (hk : okSecret k = true) (hi : imgE n v c = 0) (ls : List Cnt) :
    updE (pwI 64 x) [] ls (n, v, c, pwI 64 k, sealA x k (imgM n v c)) (n, v, c, pwI 64 k, sealA x k (imgM n v c)) = 9 := by
  unfold updE
  rw [certLast_nil (okIn_own hx)]
  simp only [signE_own hx hk hi, if_true]
  unfold upE2
  simp [hi]
def Slt.sg (s : Slt) : Sgn := (s.n, s.v, s.c, s.p, s.a)
def doE (root : Int) (cs : List (Int × Int × Int)) (ls : List Cnt) (s : Slts) (z : Sgn) : Int :=
  if updE root cs ls (s.at_ s.safe).sg z = 0 then putE s z.1 z.2.1 z.2.2.1 else updE root cs ls (s.at_ s.safe).sg z
def doS (root : Int) (cs : List (Int × Int × Int)) (ls : List Cnt) (s : Slts) (z : Sgn) : Slts :=
  if updE root cs ls (s.at_ s.safe).sg z = 0 then putS s z.1 z.2.1 z.2.2.1 z.2.2.2.1 z.2.2.2.2 else s
theorem doE_bd (root : Int) (cs : List (Int × Int × Int)) (ls : List Cnt) (s : Slts) (z : Sgn) : I64 (doE root cs ls s z) := by
  unfold doE; split
  · exact putE_bd _ _ _ _
  · exact updE_bd _ _ _ _ _
theorem Inv.doS {s : Slts} (h : Inv s) (root : Int) (cs : List (Int × Int × Int)) (ls : List Cnt) {z : Sgn} (hn : z.1.size ≤ 140737488351232) (hc : z.2.2.1.size ≤ 140737488351232) (iv : I64 z.2.1) (ip : I64 z.2.2.2.1) (ia : I64 z.2.2.2.2) : Inv (doS root cs ls s z) := by
  unfold Go.Proofs.YtflhbnaocognlaaGreatDoor.doS
  split
  · exact h.putS hn hc iv ip ia
  · exact h

end Go.Proofs.YtflhbnaocognlaaGreatDoor
