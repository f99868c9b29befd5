/- image.Newer (the same walk as in Upd, for a seat whose program has no update). -/
import Derived.Test.YtalgnjdnanlidaaDoorRows
import Derived.Test.YtalgnjdnanlidaaDoorNum
import Derived.Test.YtalgnjdnanlidaaDoorBase
import Derived.Test.YtalgnjdnanlidaaDoorImg
import Derived.Test.YtalgnjdnanlidaaDoorImg2
import Derived.Test.YtalgnjdnanlidaaDoorFoot
import Derived.WalkKit
import Derived.WalkSpells
import Derived.Lib.Hide
import Derived.Deep.QuietTactic
import Derived.BigQuiet
import Derived.RegionTactic
import Derived.BigRegion
namespace Go.Proofs.YtalgnjdnanlidaaDoor
open Go.RowKit
set_option maxRecDepth 100000
set_option linter.unusedSimpArgs false
set_option linter.unusedVariables false

def newE (na : ByteArray) (va : Int) (ca : ByteArray) (nb : ByteArray) (vb : Int) (cb : ByteArray) : Int :=
  if imgE na va ca = 0 then (if imgE nb vb cb = 0 then (if na.data.toList = nb.data.toList then 0 else 3) else imgE nb vb cb) else imgE na va ca
def newB (na : ByteArray) (va : Int) (ca : ByteArray) (nb : ByteArray) (vb : Int) (cb : ByteArray) : Bool := decide (newE na va ca nb vb cb = 0) && decide (vb < va)
set_option maxHeartbeats 2000000 in
theorem imgNewer_any (na : ByteArray) (va : Int) (ca : ByteArray) (nb : ByteArray) (vb : Int) (cb : ByteArray) (w : World) (h1 : na.size ≤ 9000000000000000000) (h2 : ca.size ≤ 9000000000000000000) (h3 : nb.size ≤ 9000000000000000000) (h4 : cb.size ≤ 9000000000000000000) :
    Calls Tryd.prog 12 #[.agg #[.string na, .int .i64 va, .string ca], .agg #[.string nb, .int .i64 vb, .string cb]] w fun e w' => e = .returned (.tuple #[.bool (newB na va ca nb vb cb), errV (newE na va ca nb vb cb)]) ∧ Below w.heap.size w w' := by
  have en := fun k w => err_neq k w
  have gn := fun o k w => err_guard_neq o k w
  go_enter Tryd.func12, Tryd.ntmps12
  go_wp2_with fail
  go_loopw [13] (fun i wr => ∃ k : Nat, k ≤ 2 ∧ i = .int .i64 k ∧ Hid (1 ≤ k → imgE na va ca = 0) ∧ Hid (2 ≤ k → imgE nb vb cb = 0) ∧ Hid (Box wr w.heap.size 31 #[.string na, .int .i64 va, .string ca]) ∧ Hid (Box wr (w.heap.size + 1) 31 #[.string nb, .int .i64 vb, .string cb]) ∧ Hid (Box wr (w.heap.size + 2) 31 #[.string na, .int .i64 va, .string ca, .string nb, .int .i64 vb, .string cb]) ∧ Below w.heap.size w wr) (fun i _ => 2 - (intOf i).toNat)
  case atStart =>
    have e1 : (w.alloc (.cells #[.string na, .int .i64 va, .string ca] 31)).heap.size = w.heap.size + 1 := by simp
    have e2 : ((w.alloc (.cells #[.string na, .int .i64 va, .string ca] 31)).alloc (.cells #[.string nb, .int .i64 vb, .string cb] 31)).heap.size = w.heap.size + 2 := by simp
    have b1 := Box.new w 31 #[.string na, .int .i64 va, .string ca]
    have b2 := Box.new (w.alloc (.cells #[.string na, .int .i64 va, .string ca] 31)) 31 #[.string nb, .int .i64 vb, .string cb]
    have b3 := Box.new ((w.alloc (.cells #[.string na, .int .i64 va, .string ca] 31)).alloc (.cells #[.string nb, .int .i64 vb, .string cb] 31)) 31 #[.string na, .int .i64 va, .string ca, .string nb, .int .i64 vb, .string cb]
    rw [e1] at b2
    rw [e2] at b3
    exact ⟨0, by omega, rfl, Lib.hid (fun h => absurd h (by omega)), Lib.hid (fun h => absurd h (by omega)), Lib.hid ((b1.alloc_ _).alloc_ _), Lib.hid (b2.alloc_ _), Lib.hid b3, (by repeat (first | (with_reducible exact grow_refl _) | (with_reducible assumption) | (with_reducible refine grow_alloc ?_ _) | (with_reducible refine grow_set ?_ (by first | exact Nat.le_refl _ | (simp; done) | (simp; omega) | omega) _) | (with_reducible refine grow_drewN ?_ _) | (with_reducible refine grow_drew ?_) | (with_reducible refine grow_step ?_ (by assumption)) | (with_reducible refine grow_base ?_ (by assumption))))⟩
  case round =>
    obtain ⟨k, hk, rfl, H1, H2, HA, HB, HQ, hb⟩ := hrel
    have e : k = 0 ∨ k = 1 ∨ k = 2 := by omega
    rcases e with rfl | rfl | rfl
    · have cQ := HQ.out.cell
      have lQ := HQ.out.lt
      obtain ⟨E, hE⟩ : ∃ E, imgE na va ca = E := ⟨_, rfl⟩
      have HC := Lib.hid (fun w => imgCheck_any na va ca w h1 h2)
      rw [hE] at HC
      by_cases h0 : E = 0
      · subst h0
        have HE := Lib.hid hE
        clear hE
        go_wp2_with fail
        refine (HC.out _).mono ?_
        rintro e w2 ⟨rfl, hb2⟩
        have b2 := grow_step (grow_alloc (grow_refl wr) (.cells #[.string na, .int .i64 va, .string ca] 31)) hb2
        go_wp2_with fail
        go_roundw
        case rel => exact ⟨1, by omega, by go_num, Lib.hid (fun _ => HE.out), Lib.hid (fun h => absurd h (by omega)), Lib.hid (HA.out.below b2), Lib.hid (HB.out.below b2), Lib.hid (HQ.out.below b2), grow_step hb b2⟩
        case measure => simp [intOf]
      · have t : (E != 0) = true := by simp [h0]
        have HR : Hid (newE na va ca nb vb cb = E ∧ newB na va ca nb vb cb = false) := Lib.hid (by
          have h : newE na va ca nb vb cb = E := by unfold newE; rw [hE, if_neg h0]
          exact ⟨h, by unfold newB; rw [h]; simp [h0]⟩)
        clear hE h0
        go_wp2_with fail
        refine (HC.out _).mono ?_
        rintro e w2 ⟨rfl, hb2⟩
        go_wp2_with fail
        go_ret2
        exact ⟨by rw [HR.out.1, HR.out.2]; rfl, (by repeat (first | (with_reducible exact grow_refl _) | (with_reducible assumption) | (with_reducible refine grow_alloc ?_ _) | (with_reducible refine grow_set ?_ (by first | exact Nat.le_refl _ | (simp; done) | (simp; omega) | omega) _) | (with_reducible refine grow_drewN ?_ _) | (with_reducible refine grow_drew ?_) | (with_reducible refine grow_step ?_ (by assumption)) | (with_reducible refine grow_base ?_ (by assumption))))⟩
    · have cQ := HQ.out.cell
      have lQ := HQ.out.lt
      have ha := H1.out (by omega)
      obtain ⟨E, hE⟩ : ∃ E, imgE nb vb cb = E := ⟨_, rfl⟩
      have HC := Lib.hid (fun w => imgCheck_any nb vb cb w h3 h4)
      rw [hE] at HC
      by_cases h0 : E = 0
      · subst h0
        have HE := Lib.hid hE
        clear hE ha
        go_wp2_with fail
        refine (HC.out _).mono ?_
        rintro e w2 ⟨rfl, hb2⟩
        have b2 := grow_step (grow_alloc (grow_refl wr) (.cells #[.string nb, .int .i64 vb, .string cb] 31)) hb2
        go_wp2_with fail
        go_roundw
        case rel => exact ⟨2, by omega, by go_num, Lib.hid (fun _ => H1.out (by omega)), Lib.hid (fun _ => HE.out), Lib.hid (HA.out.below b2), Lib.hid (HB.out.below b2), Lib.hid (HQ.out.below b2), grow_step hb b2⟩
        case measure => simp [intOf]
      · have t : (E != 0) = true := by simp [h0]
        have HR : Hid (newE na va ca nb vb cb = E ∧ newB na va ca nb vb cb = false) := Lib.hid (by
          have h : newE na va ca nb vb cb = E := by unfold newE; rw [ha, if_pos rfl, hE, if_neg h0]
          exact ⟨h, by unfold newB; rw [h]; simp [h0]⟩)
        clear hE h0 ha
        go_wp2_with fail
        refine (HC.out _).mono ?_
        rintro e w2 ⟨rfl, hb2⟩
        go_wp2_with fail
        go_ret2
        exact ⟨by rw [HR.out.1, HR.out.2]; rfl, (by repeat (first | (with_reducible exact grow_refl _) | (with_reducible assumption) | (with_reducible refine grow_alloc ?_ _) | (with_reducible refine grow_set ?_ (by first | exact Nat.le_refl _ | (simp; done) | (simp; omega) | omega) _) | (with_reducible refine grow_drewN ?_ _) | (with_reducible refine grow_drew ?_) | (with_reducible refine grow_step ?_ (by assumption)) | (with_reducible refine grow_base ?_ (by assumption))))⟩
    · have ha := H1.out (by omega)
      have hbb := H2.out (by omega)
      have cA := HA.out.cell
      have lA := HA.out.lt
      have cB := HB.out.cell
      have lB := HB.out.lt
      have hnew : newE na va ca nb vb cb = if na.data.toList = nb.data.toList then 0 else 3 := by unfold newE; rw [ha, if_pos rfl, hbb, if_pos rfl]
      by_cases hq : na.data.toList = nb.data.toList
      · have t : (na.toList == nb.toList) = true := by rw [ByteArray.toList_eq, ByteArray.toList_eq, hq]; simp
        have HR : Hid (newE na va ca nb vb cb = 0 ∧ newB na va ca nb vb cb = decide (vb < va)) := Lib.hid (by
          rw [if_pos hq] at hnew
          exact ⟨hnew, by unfold newB; rw [hnew]; simp⟩)
        clear hnew hq ha hbb
        go_wp2_with fail
        go_ret2
        exact ⟨by rw [HR.out.1, HR.out.2]; rfl, (by repeat (first | (with_reducible exact grow_refl _) | (with_reducible assumption) | (with_reducible refine grow_alloc ?_ _) | (with_reducible refine grow_set ?_ (by first | exact Nat.le_refl _ | (simp; done) | (simp; omega) | omega) _) | (with_reducible refine grow_drewN ?_ _) | (with_reducible refine grow_drew ?_) | (with_reducible refine grow_step ?_ (by assumption)) | (with_reducible refine grow_base ?_ (by assumption))))⟩
      · have t : (na.toList == nb.toList) = false := by rw [ByteArray.toList_eq, ByteArray.toList_eq]; simpa using hq
        have HR : Hid (newE na va ca nb vb cb = 3 ∧ newB na va ca nb vb cb = false) := Lib.hid (by
          rw [if_neg hq] at hnew
          exact ⟨hnew, by unfold newB; rw [hnew]; simp⟩)
        clear hnew hq ha hbb
        go_wp2_with fail
        go_ret2
        exact ⟨by rw [HR.out.1, HR.out.2]; rfl, (by repeat (first | (with_reducible exact grow_refl _) | (with_reducible assumption) | (with_reducible refine grow_alloc ?_ _) | (with_reducible refine grow_set ?_ (by first | exact Nat.le_refl _ | (simp; done) | (simp; omega) | omega) _) | (with_reducible refine grow_drewN ?_ _) | (with_reducible refine grow_drew ?_) | (with_reducible refine grow_step ?_ (by assumption)) | (with_reducible refine grow_base ?_ (by assumption))))⟩
end Go.Proofs.YtalgnjdnanlidaaDoor
