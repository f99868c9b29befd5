/- update, in plain words: what is wrong with an update, and what it comes to. device, in plain words: the slots hold images of one name, the one on trial newer than the good one; the counts know that name alone. -/
import Derived.Test.YtdedllfgeekogaaDoorRows
import Derived.Test.YtdedllfgeekogaaDoorNum
import Derived.Test.YtdedllfgeekogaaDoorSeal
import Derived.Test.YtdedllfgeekogaaDoorKey
import Derived.Test.YtdedllfgeekogaaDoorOpI
import Derived.Test.YtdedllfgeekogaaDoorImg
import Derived.Test.YtdedllfgeekogaaDoorImg2
import Derived.Test.YtdedllfgeekogaaDoorSign
import Derived.Test.YtdedllfgeekogaaDoorBds
import Derived.Test.YtdedllfgeekogaaDoorSlot
import Derived.Test.YtdedllfgeekogaaDoorSInv
import Derived.Test.YtdedllfgeekogaaDoorCntP
import Derived.Test.YtdedllfgeekogaaDoorCntC
import Derived.Test.YtdedllfgeekogaaDoorBase
namespace Go.Proofs.YtdedllfgeekogaaDoor
open Go.RowKit
set_option maxRecDepth 100000

def newE (na : ByteArray) (va : Int) (ca : ByteArray) (nb : ByteArray) (vb : Int) (cb : ByteArray) : Int :=
  if imgE na va ca = 0 then (if imgE nb vb cb = 0 then (if na.data.toList = nb.data.toList then 0 else 3) else imgE nb vb cb) else imgE na va ca
def newB (na : ByteArray) (va : Int) (ca : ByteArray) (nb : ByteArray) (vb : Int) (cb : ByteArray) : Bool := decide (newE na va ca nb vb cb = 0) && decide (vb < va)
/-- o: what is there; z: what comes next. -/
def upE2 (ls : List Cnt) (o z : Sgn) : Int :=
  if imgE o.1 o.2.1 o.2.2.1 = 0 then (if z.1.data.toList = o.1.data.toList then (if z.2.1 ≤ o.2.1 then 9 else mayL ls z.1 z.2.1) else 3) else imgE o.1 o.2.1 o.2.2.1
def updE (root : Int) (cs : List (Int × Int × Int)) (ls : List Cnt) (o z : Sgn) : Int :=
  if (certLast root cs).2 = 0 then (if signE (certLast root cs).1 z.1 z.2.1 z.2.2.1 z.2.2.2.1 z.2.2.2.2 = 0 then upE2 ls o z else signE (certLast root cs).1 z.1 z.2.1 z.2.2.1 z.2.2.2.1 z.2.2.2.2) else (certLast root cs).2
theorem signE_img {q : Int} {n : ByteArray} {v : Int} {c : ByteArray} {p a : Int} (h : signE q n v c p a = 0) : imgE n v c = 0 := by
  unfold signE at h
  split at h
  · assumption
  · exact absurd h (by assumption)
theorem newE_of {q : Int} {n : ByteArray} {v : Int} {c : ByteArray} {p a : Int} (h : signE q n v c p a = 0) (nb : ByteArray) (vb : Int) (cb : ByteArray) : newE n v c nb vb cb = if imgE nb vb cb = 0 then (if n.data.toList = nb.data.toList then 0 else 3) else imgE nb vb cb := by
  unfold newE; rw [if_pos (signE_img h)]
theorem signE_bd_ (q : Int) (n : ByteArray) (v : Int) (c : ByteArray) (p a : Int) : I64 (signE q n v c p a) := by
  unfold signE; split
  · exact rightE_bd _ _ _ _
  · exact imgE_bd _ _ _
theorem updE_bd (root : Int) (cs : List (Int × Int × Int)) (ls : List Cnt) (o z : Sgn) : I64 (updE root cs ls o z) := by
  unfold updE upE2
  split
  · split
    · split
      · split
        · split
          · exact ⟨by decide, by decide⟩
          · exact mayL_bd _ _ _
        · exact ⟨by decide, by decide⟩
      · exact imgE_bd _ _ _
    · exact signE_bd_ _ _ _ _ _ _
  · exact certLast_bd _ _
theorem right_own (x k m : Int) (hx : okSecret x = true) (hk : okSecret k = true) (hm : okM m = true) : rightE (pwI 64 x) m (pwI 64 k) (sealA x k m) = 0 := by
  obtain ⟨x1, x2⟩ := okSecret_yes hx
  obtain ⟨k1, k2⟩ := okSecret_yes hk
  have i1 := key_in (x := x) (by omega) (by omega)
  have i2 := key_in (x := k) (by omega) (by omega)
  have hb := sealA_bd x k m
  unfold rightE okSeal
  have ha : okAns (sealA x k m) = true := decide_eq_true ⟨hb.1, hb.2⟩
  rw [i1, i2, hm, ha, seal_only x k m (sealA x k m) hx hk hb.1 hb.2]
  simp
theorem signE_own {x k : Int} {n : ByteArray} {v : Int} {c : ByteArray} (hx : okSecret x = true) (hk : okSecret k = true) (hi : imgE n v c = 0) : signE (pwI 64 x) n v c (pwI 64 k) (sealA x k (imgM n v c)) = 0 := by
  unfold signE
  rw [if_pos hi]
  exact right_own x k _ hx hk (imgM_ok _ _ _)
theorem certLast_nil {q : Int} (h : okIn q = true) : certLast q [] = (q, 0) := by unfold certLast; rw [if_neg (by simp), h]; rfl
theorem okIn_own {x : Int} (hx : okSecret x = true) : okIn (pwI 64 x) = true := by
  obtain ⟨x1, x2⟩ := okSecret_yes hx
  exact key_in (x := x) (by omega) (by omega)
theorem updE_same {x k : Int} {n : ByteArray} {v : Int} {c : ByteArray} (hx : okSecret x = true) (hk : okSecret k = true) (hi : imgE n v c = 0) (ls : List Cnt) :
    updE (pwI 64 x) [] ls (n, v, c, pwI 64 k, sealA x k (imgM n v c)) (n, v, c, pwI 64 k, sealA x k (imgM n v c)) = 9 := by
  unfold updE
  rw [certLast_nil (okIn_own hx)]
  simp only [signE_own hx hk hi, if_true]
  unfold upE2
  simp [hi]
def Slt.sg (s : Slt) : Sgn := (s.n, s.v, s.c, s.p, s.a)
def doE (root : Int) (cs : List (Int × Int × Int)) (ls : List Cnt) (s : Slts) (z : Sgn) : Int :=
  if updE root cs ls (s.at_ s.safe).sg z = 0 then putE s z.1 z.2.1 z.2.2.1 else updE root cs ls (s.at_ s.safe).sg z
def doS (root : Int) (cs : List (Int × Int × Int)) (ls : List Cnt) (s : Slts) (z : Sgn) : Slts :=
  if updE root cs ls (s.at_ s.safe).sg z = 0 then putS s z.1 z.2.1 z.2.2.1 z.2.2.2.1 z.2.2.2.2 else s
theorem doE_bd (root : Int) (cs : List (Int × Int × Int)) (ls : List Cnt) (s : Slts) (z : Sgn) : I64 (doE root cs ls s z) := by
  unfold doE; split
  · exact putE_bd _ _ _ _
  · exact updE_bd _ _ _ _ _
theorem Inv.doS {s : Slts} (h : Inv s) (root : Int) (cs : List (Int × Int × Int)) (ls : List Cnt) {z : Sgn} (hn : z.1.size ≤ 140737488351232) (hc : z.2.2.1.size ≤ 140737488351232) (iv : I64 z.2.1) (ip : I64 z.2.2.2.1) (ia : I64 z.2.2.2.2) : Inv (doS root cs ls s z) := by
  unfold Go.Proofs.YtdedllfgeekogaaDoor.doS
  split
  · exact h.putS hn hc iv ip ia
  · exact h

end Go.Proofs.YtdedllfgeekogaaDoor

namespace Go.Proofs.YtdedllfgeekogaaDoor
open Go.RowKit
set_option maxRecDepth 100000
set_option linter.unusedVariables false
set_option linter.unusedSimpArgs false

theorem imgE_zero {n : ByteArray} {v : Int} {c : ByteArray} (h : imgE n v c = 0) : okName n = true ∧ 1 ≤ v ∧ v ≤ 1000 := by
  unfold imgE at h
  split at h
  · cases h
  · rename_i h1
    split at h
    · cases h
    · rename_i h2
      split at h
      · cases h
      · rename_i h3
        refine ⟨?_, by omega, by omega⟩
        unfold okName
        have h4 : lowS n = true := by
          cases hl : lowS n
          · exact absurd (Or.inr (Or.inl hl)) h1
          · rfl
        rw [h4, Bool.true_and, decide_eq_true_eq]
        have h5 : n.size ≠ 0 := fun h => h1 (Or.inl h)
        have h6 : ¬ 8 < n.size := fun h => h2 (Or.inl h)
        omega
theorem updE_zero {root : Int} {cs : List (Int × Int × Int)} {ls : List Cnt} {o z : Sgn} (h : updE root cs ls o z = 0) : z.1.data.toList = o.1.data.toList ∧ o.2.1 < z.2.1 := by
  unfold updE at h
  split at h
  · split at h
    · unfold upE2 at h
      split at h
      · split at h
        · rename_i hn
          split at h
          · cases h
          · rename_i hv
            exact ⟨hn, by omega⟩
        · cases h
      · rename_i h0; exact absurd h h0
    · rename_i h0; exact absurd h h0
  · rename_i h0; exact absurd h h0

def NmOk (N : List UInt8) (z : Slt) : Prop := z.f = true → imgE z.n z.v z.c = 0 ∧ z.n.data.toList = N
structure InvN (N : List UInt8) (s : Slts) : Prop where
  inv : Inv s
  x : NmOk N s.x
  y : NmOk N s.y
  ord : (s.at_ (!s.safe)).f = true → (s.at_ s.safe).v < (s.at_ (!s.safe)).v
theorem InvN.at_ {N : List UInt8} {s : Slts} (h : InvN N s) (r : Bool) : NmOk N (s.at_ r) := by cases r; exact h.x; exact h.y
theorem InvN.safe {N : List UInt8} {s : Slts} (h : InvN N s) : imgE (s.at_ s.safe).n (s.at_ s.safe).v (s.at_ s.safe).c = 0 ∧ (s.at_ s.safe).n.data.toList = N :=
  h.at_ _ ((h.inv.at_ _).1 (safe_good h.inv).1)
theorem InvN.pick {N : List UInt8} {s : Slts} (h : InvN N s) : imgE (s.at_ s.pick).n (s.at_ s.pick).v (s.at_ s.pick).c = 0 ∧ (s.at_ s.pick).n.data.toList = N := by
  rcases pick_ok h.inv with ⟨hk, _⟩ | ⟨_, hk, _⟩
  · exact h.at_ _ ((h.inv.at_ _).1 hk)
  · exact h.at_ _ hk
theorem InvN.run {N : List UInt8} {s : Slts} (h : InvN N s) : imgE (s.at_ s.r).n (s.at_ s.r).v (s.at_ s.r).c = 0 ∧ (s.at_ s.r).n.data.toList = N := h.at_ _ h.inv.run
theorem noSlt_nm (N : List UInt8) : NmOk N noSlt := fun h => by cases h
theorem InvN.first {n : ByteArray} {v : Int} {c : ByteArray} {p a : Int} (hn : n.size ≤ 140737488351232) (hc : c.size ≤ 140737488351232) (iv : I64 v) (ip : I64 p) (ia : I64 a) (hi : imgE n v c = 0) : InvN n.data.toList ⟨⟨n, v, c, p, a, true, 0, true⟩, noSlt, false⟩ :=
  ⟨Inv.first hn hc iv ip ia, fun _ => ⟨hi, rfl⟩, noSlt_nm _, fun h => by cases h⟩
theorem tried_im (z : Slt) : z.tried.n = z.n ∧ z.tried.v = z.v ∧ z.tried.c = z.c := by unfold Slt.tried; split <;> exact ⟨rfl, rfl, rfl⟩
theorem NmOk.tried {N : List UInt8} {z : Slt} (h : NmOk N z) : NmOk N z.tried := fun hf => by
  rw [tried_f] at hf
  obtain ⟨e1, e2, e3⟩ := tried_im z
  rw [e1, e2, e3]
  exact h hf
theorem startS_safe {s : Slts} (h : Inv s) : (startS s).safe = s.safe ∧ (startS s).r = s.pick ∧ (∀ r, ((startS s).at_ r).n = (s.at_ r).n ∧ ((startS s).at_ r).v = (s.at_ r).v ∧ ((startS s).at_ r).c = (s.at_ r).c ∧ ((startS s).at_ r).f = (s.at_ r).f ∧ ((startS s).at_ r).g = (s.at_ r).g) := by
  have h3 := h.one
  obtain ⟨p, hp⟩ : ∃ p, s.pick = p := ⟨_, rfl⟩
  unfold startS
  rw [hp]
  obtain ⟨x, y, r⟩ := s
  obtain ⟨e1, e2, e3⟩ := tried_im x
  obtain ⟨f1, f2, f3⟩ := tried_im y
  have e4 := tried_g x
  have e5 := tried_f x
  have f4 := tried_g y
  have f5 := tried_f y
  refine ⟨?_, ?_, ?_⟩
  · cases p <;> cases r <;> cases hx : x.g <;> simp_all [Slts.safe, Slts.at_, Slts.set_]
  · cases p <;> rfl
  · intro q
    cases p <;> cases q <;> simp_all [Slts.at_, Slts.set_]
theorem InvN.startS {N : List UInt8} {s : Slts} (h : InvN N s) : InvN N (startS s) := by
  obtain ⟨e1, e2, e3⟩ := startS_safe h.inv
  refine ⟨h.inv.startS, ?_, ?_, ?_⟩
  · have k := h.x
    obtain ⟨a1, a2, a3, a4, _⟩ := e3 false
    intro hf
    have hf' : ((Go.Proofs.YtdedllfgeekogaaDoor.startS s).at_ false).f = true := hf
    rw [a4] at hf'
    have q : imgE ((Go.Proofs.YtdedllfgeekogaaDoor.startS s).at_ false).n ((Go.Proofs.YtdedllfgeekogaaDoor.startS s).at_ false).v ((Go.Proofs.YtdedllfgeekogaaDoor.startS s).at_ false).c = 0 ∧ ((Go.Proofs.YtdedllfgeekogaaDoor.startS s).at_ false).n.data.toList = N := by
      rw [a1, a2, a3]; exact k hf'
    exact q
  · have k := h.y
    obtain ⟨a1, a2, a3, a4, _⟩ := e3 true
    intro hf
    have hf' : ((Go.Proofs.YtdedllfgeekogaaDoor.startS s).at_ true).f = true := hf
    rw [a4] at hf'
    have q : imgE ((Go.Proofs.YtdedllfgeekogaaDoor.startS s).at_ true).n ((Go.Proofs.YtdedllfgeekogaaDoor.startS s).at_ true).v ((Go.Proofs.YtdedllfgeekogaaDoor.startS s).at_ true).c = 0 ∧ ((Go.Proofs.YtdedllfgeekogaaDoor.startS s).at_ true).n.data.toList = N := by
      rw [a1, a2, a3]; exact k hf'
    exact q
  · rw [e1, (e3 s.safe).2.1, (e3 (!s.safe)).2.1, (e3 (!s.safe)).2.2.2.1]
    exact h.ord
theorem safe_run {s : Slts} (h : Inv s) (hg : (s.at_ s.r).g = false) : s.safe = !s.r := by unfold Slts.safe; rw [hg]; rfl
theorem safe_run1 {s : Slts} (hg : (s.at_ s.r).g = true) : s.safe = s.r := by unfold Slts.safe; rw [hg]; rfl
theorem good_at {s : Slts} (hg : (s.at_ s.r).g = false) : (goodS s).safe = s.r ∧ (goodS s).r = s.r ∧ ((goodS s).at_ s.r).n = (s.at_ s.r).n ∧ ((goodS s).at_ s.r).v = (s.at_ s.r).v ∧ ((goodS s).at_ s.r).c = (s.at_ s.r).c ∧ (goodS s).at_ (!s.r) = noSlt := by
  unfold goodS
  rw [hg]
  obtain ⟨x, y, r⟩ := s
  cases r <;> exact ⟨rfl, rfl, rfl, rfl, rfl, rfl⟩
theorem InvN.goodS {N : List UInt8} {s : Slts} (h : InvN N s) : InvN N (goodS s) := by
  cases hg : (s.at_ s.r).g
  · obtain ⟨e1, e2, e3, e4, e5, e6⟩ := good_at hg
    have k := h.run
    refine ⟨h.inv.goodS, ?_, ?_, ?_⟩
    · unfold Go.Proofs.YtdedllfgeekogaaDoor.goodS
      rw [hg]
      obtain ⟨x, y, r⟩ := s
      cases r
      · exact fun _ => k
      · exact noSlt_nm N
    · unfold Go.Proofs.YtdedllfgeekogaaDoor.goodS
      rw [hg]
      obtain ⟨x, y, r⟩ := s
      cases r
      · exact noSlt_nm N
      · exact fun _ => k
    · rw [e1, e6]
      intro hf; cases hf
  · have e : Go.Proofs.YtdedllfgeekogaaDoor.goodS s = s := by unfold Go.Proofs.YtdedllfgeekogaaDoor.goodS; rw [if_pos hg]
    rw [e]; exact h
theorem InvN.doS {N : List UInt8} {s : Slts} (h : InvN N s) (root : Int) (cs : List (Int × Int × Int)) (ls : List Cnt) {z : Sgn} (hn : z.1.size ≤ 140737488351232) (hc : z.2.2.1.size ≤ 140737488351232) (iv : I64 z.2.1) (ip : I64 z.2.2.2.1) (ia : I64 z.2.2.2.2) : InvN N (doS root cs ls s z) := by
  have hI := h.inv.doS root cs ls hn hc iv ip ia
  unfold Go.Proofs.YtdedllfgeekogaaDoor.doS at hI ⊢
  by_cases hu : updE root cs ls (s.at_ s.safe).sg z = 0
  · rw [if_pos hu] at hI ⊢
    obtain ⟨q1, q2⟩ := updE_zero hu
    have hN : z.1.data.toList = N := q1.trans h.safe.2
    unfold putS at hI ⊢
    by_cases hi : imgE z.1 z.2.1 z.2.2.1 = 0
    · rw [if_pos hi] at hI ⊢
      cases hg : (s.at_ s.r).g
      · rw [if_neg (by decide)]; exact h
      · rw [if_pos rfl]
        rw [hg, if_pos rfl] at hI
        have hs := safe_run1 hg
        rw [hs] at q2
        refine ⟨hI, ?_, ?_, ?_⟩
        · obtain ⟨x, y, r⟩ := s
          cases r
          · exact h.x
          · exact fun _ => ⟨hi, hN⟩
        · obtain ⟨x, y, r⟩ := s
          cases r
          · exact fun _ => ⟨hi, hN⟩
          · exact h.y
        · obtain ⟨x, y, r⟩ := s
          cases r
          · intro _
            have e : (Slts.put ⟨x, y, false⟩ z.1 z.2.1 z.2.2.1 z.2.2.2.1 z.2.2.2.2).safe = false := by
              unfold Slts.safe
              have : x.g = true := hg
              simp [Slts.put, Slts.at_, Slts.set_, this]
            rw [e]
            exact q2
          · intro _
            have e : (Slts.put ⟨x, y, true⟩ z.1 z.2.1 z.2.2.1 z.2.2.2.1 z.2.2.2.2).safe = true := by
              unfold Slts.safe
              have : y.g = true := hg
              simp [Slts.put, Slts.at_, Slts.set_, this]
            rw [e]
            exact q2
    · rw [if_neg hi] at hI ⊢; exact h
  · rw [if_neg hu]; exact h
/-- What runs is what stands in the slot that runs. -/
def RunsAs (s : Slts) (n : ByteArray) (v : Int) (c : ByteArray) : Prop := n = (s.at_ s.r).n ∧ v = (s.at_ s.r).v ∧ c = (s.at_ s.r).c
theorem RunsAs.doS {s : Slts} {n : ByteArray} {v : Int} {c : ByteArray} (h : RunsAs s n v c) (root : Int) (cs : List (Int × Int × Int)) (ls : List Cnt) (z : Sgn) : RunsAs (doS root cs ls s z) n v c := by
  unfold Go.Proofs.YtdedllfgeekogaaDoor.doS
  split
  · unfold putS
    split
    · split
      · obtain ⟨x, y, r⟩ := s
        cases r <;> exact h
      · exact h
    · exact h
  · exact h
theorem RunsAs.goodS {s : Slts} {n : ByteArray} {v : Int} {c : ByteArray} (h : RunsAs s n v c) : RunsAs (goodS s) n v c := by
  unfold Go.Proofs.YtdedllfgeekogaaDoor.goodS
  split
  · exact h
  · obtain ⟨x, y, r⟩ := s
    cases r <;> exact h
theorem RunsAs.startS {s : Slts} (h : Inv s) : RunsAs (startS s) (s.at_ s.pick).n (s.at_ s.pick).v (s.at_ s.pick).c := by
  obtain ⟨_, e2, e3⟩ := startS_safe h
  obtain ⟨a1, a2, a3, _⟩ := e3 s.pick
  unfold RunsAs
  rw [e2]
  exact ⟨a1.symm, a2.symm, a3.symm⟩
theorem RunsAs.ok {N : List UInt8} {s : Slts} {n : ByteArray} {v : Int} {c : ByteArray} (h : RunsAs s n v c) (hs : InvN N s) : imgE n v c = 0 ∧ n.data.toList = N := by
  obtain ⟨rfl, rfl, rfl⟩ := h
  exact hs.run
theorem run_least {N : List UInt8} {s : Slts} (h : InvN N s) : (s.at_ s.safe).v ≤ (s.at_ s.r).v := by
  cases hg : (s.at_ s.r).g
  · have e := safe_run h.inv hg
    have k := h.ord
    rw [e, Bool.not_not] at k
    have := k h.inv.run
    rw [e]; omega
  · rw [safe_run1 hg]; omega
theorem run_more {N : List UInt8} {s : Slts} (h : InvN N s) (hg : (s.at_ s.r).g = false) : (s.at_ s.safe).v < (s.at_ s.r).v ∧ ((goodS s).at_ (goodS s).safe).v = (s.at_ s.r).v := by
  have e := safe_run h.inv hg
  have k := h.ord
  obtain ⟨e1, _, _, e4, _⟩ := good_at hg
  rw [e, Bool.not_not] at k
  refine ⟨by rw [e]; exact k h.inv.run, by rw [e1, e4]⟩

theorem doS_safe (root : Int) (cs : List (Int × Int × Int)) (ls : List Cnt) (s : Slts) (z : Sgn) (h : Inv s) : ((doS root cs ls s z).at_ (doS root cs ls s z).safe).v = (s.at_ s.safe).v := by
  unfold Go.Proofs.YtdedllfgeekogaaDoor.doS
  split
  · unfold putS
    split
    · split
      · rename_i hg
        have hs := safe_run1 hg
        rw [hs]
        obtain ⟨x, y, r⟩ := s
        cases r
        · have e : (Slts.put ⟨x, y, false⟩ z.1 z.2.1 z.2.2.1 z.2.2.2.1 z.2.2.2.2).safe = false := by
            unfold Slts.safe
            have : x.g = true := hg
            simp [Slts.put, Slts.at_, Slts.set_, this]
          rw [e]; rfl
        · have e : (Slts.put ⟨x, y, true⟩ z.1 z.2.1 z.2.2.1 z.2.2.2.1 z.2.2.2.2).safe = true := by
            unfold Slts.safe
            have : y.g = true := hg
            simp [Slts.put, Slts.at_, Slts.set_, this]
          rw [e]; rfl
      · rfl
    · rfl
  · rfl
theorem startS_sv {s : Slts} (h : Inv s) : ((startS s).at_ (startS s).safe).v = (s.at_ s.safe).v := by
  obtain ⟨e1, _, e3⟩ := startS_safe h
  rw [e1, (e3 _).2.1]

/-- The counts know one name alone. -/
def LsN (N : List UInt8) (ls : List Cnt) : Prop := ls = [] ∨ ∃ s x, ls = [(s, x)] ∧ s.data.toList = N
theorem LsN.len {N : List UInt8} {ls : List Cnt} (h : LsN N ls) : ls.length ≤ 12 := by
  rcases h with rfl | ⟨s, x, rfl, _⟩ <;> simp
theorem LsN.raise {N : List UInt8} {ls : List Cnt} (h : LsN N ls) {n : ByteArray} {v : Int} {c : ByteArray} (hi : imgE n v c = 0) (hn : n.data.toList = N) : raiseE ls n v = 0 ∧ LsN N (raiseL ls n v) := by
  obtain ⟨h1, h2, h3⟩ := imgE_zero hi
  have hv : ¬ (v < 0 ∨ 1000 < v) := by omega
  unfold raiseE raiseL
  rw [if_pos h1, if_neg hv, if_pos h1, if_neg hv]
  rcases h with rfl | ⟨s, x, rfl, hs⟩
  · have hh : hasL [] n.data.toList = false := rfl
    rw [hh]
    split
    · exact ⟨rfl, Or.inl rfl⟩
    · exact ⟨rfl, Or.inr ⟨n, v, rfl, hn⟩⟩
  · have hh : hasL [(s, x)] n.data.toList = true := by
      show (s.data.toList == n.data.toList || _) = true
      rw [hs, hn]; simp
    have hl : setL [(s, x)] n.data.toList v = [(s, v)] := by
      show (if s.data.toList = n.data.toList then _ else _) = _
      rw [if_pos (hs.trans hn.symm)]
    rw [hh, hl]
    split
    · exact ⟨rfl, Or.inr ⟨s, x, rfl, hs⟩⟩
    · exact ⟨rfl, Or.inr ⟨s, v, rfl, hs⟩⟩

end Go.Proofs.YtdedllfgeekogaaDoor
