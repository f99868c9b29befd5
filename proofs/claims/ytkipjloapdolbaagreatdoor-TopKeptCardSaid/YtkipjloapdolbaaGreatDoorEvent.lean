/- The walks of package event. -/
import Derived.Test.YtkipjloapdolbaaGreatDoorRows
import Derived.Test.YtkipjloapdolbaaGreatDoorNum
import Derived.Test.YtkipjloapdolbaaGreatDoorBase
import Derived.Test.YtkipjloapdolbaaGreatDoorMeas
import Derived.Test.YtkipjloapdolbaaGreatDoorBank
import Derived.WalkKit
import Derived.Lib.Hide
import Derived.Deep.RegionHeld3
import Derived.StillTailTactics
import Derived.Deep.RegionWith
import Derived.BigRegion
namespace Go.Proofs.YtkipjloapdolbaaGreatDoor
open Go.RowKit

def EvsAt (w : World) (A : Option Addr) (es : List (Int × Int)) : Prop :=
  ∀ i, i < es.length → ∃ b off, A = some ⟨b, off, none⟩ ∧ b < w.heap.size ∧ w.cell? ⟨b, off + i * 2, none⟩ = some (.int .i64 (es.getD i (0, 0)).1) ∧
    w.cell? ⟨b, off + i * 2 + 1, none⟩ = some (.int .i64 (es.getD i (0, 0)).2)
theorem EvsAt.below {w w' : World} {A : Option Addr} {es : List (Int × Int)} (h : EvsAt w A es) (hb : Below w.heap.size w w') : EvsAt w' A es := fun i hi => by
  obtain ⟨b, off, e, hlt, h1, h2⟩ := h i hi
  exact ⟨b, off, e, Nat.lt_of_lt_of_le hlt hb.size, (hb.cell (p := ⟨b, off + i * 2, none⟩) hlt).trans h1, (hb.cell (p := ⟨b, off + i * 2 + 1, none⟩) hlt).trans h2⟩
theorem EvsAt.nil_ (w : World) (A : Option Addr) : EvsAt w A [] := fun i hi => absurd hi (by simp)

theorem anyE_step {es : List (Int × Int)} {pr : Int × Int → Bool} (k : Nat) (h : k < es.length) (hp : (es.take k).any pr = false) (hk : pr (es.getD k (0, 0)) = false) : (es.take (k + 1)).any pr = false := by
  rw [take_snoc es (0, 0) k h, List.any_append, hp, List.any_cons, List.any_nil, hk]; rfl
theorem anyE_at {es : List (Int × Int)} {pr : Int × Int → Bool} (k : Nat) (h : k < es.length) (hk : pr (es.getD k (0, 0)) = true) : es.any pr = true := by
  rw [List.any_eq_true]
  refine ⟨es.getD k (0, 0), ?_, hk⟩
  rw [List.getD_eq_getElem?_getD, List.getElem?_eq_getElem h]; exact List.getElem_mem h

def badEv (x : Int × Int) : Bool := !okEv x
def IndexPostE (b : Bool) (w : World) (e : Ending) (w' : World) : Prop := ∃ i : Int, e = .returned (.int .i64 i) ∧ -1 ≤ i ∧ i ≤ 9223372036854775806 ∧ (b = true → 0 ≤ i) ∧ (b = false → i < 0) ∧ Below w.heap.size w w'

set_option maxHeartbeats 400000 in
theorem evCheck1_any (x m : Int) (w : World) :
    Calls Tryz.prog 66 #[.agg #[.int .i64 x, .int .i64 m]] w fun e w' => e = .returned (.bool (badEv (x, m))) ∧ Below w.heap.size w w' := by
  cases hx : okReg x
  · have HF : Hid (badEv (x, m) = true) := Lib.hid (by simp [badEv, okEv, hx])
    go_enter Tryz.func66, Tryz.ntmps66
    go_wp2_with (first | (go_at_call 67; refine (register_any _ _).mono ?_; rintro e w' ⟨rfl, rfl⟩) | (go_at_call 34; refine (mIs_any _ _).mono ?_; rintro e w' ⟨rfl, rfl⟩))
    go_ret
    exact ⟨bool_eq HF.out.symm, (by repeat (first | (with_reducible exact grow_refl _) | (with_reducible assumption) | (with_reducible refine grow_alloc ?_ _) | (with_reducible refine grow_set ?_ (by first | exact Nat.le_refl _ | (simp; done) | (simp; omega) | omega) _) | (with_reducible refine grow_drewN ?_ _) | (with_reducible refine grow_drew ?_) | (with_reducible refine grow_step ?_ (by assumption)) | (with_reducible refine grow_base ?_ (by assumption))))⟩
  · cases hm : okM m
    · have HF : Hid (badEv (x, m) = true) := Lib.hid (by simp [badEv, okEv, hm])
      go_enter Tryz.func66, Tryz.ntmps66
      go_wp2_with (first | (go_at_call 67; refine (register_any _ _).mono ?_; rintro e w' ⟨rfl, rfl⟩) | (go_at_call 34; refine (mIs_any _ _).mono ?_; rintro e w' ⟨rfl, rfl⟩))
      go_ret
      exact ⟨bool_eq HF.out.symm, (by repeat (first | (with_reducible exact grow_refl _) | (with_reducible assumption) | (with_reducible refine grow_alloc ?_ _) | (with_reducible refine grow_set ?_ (by first | exact Nat.le_refl _ | (simp; done) | (simp; omega) | omega) _) | (with_reducible refine grow_drewN ?_ _) | (with_reducible refine grow_drew ?_) | (with_reducible refine grow_step ?_ (by assumption)) | (with_reducible refine grow_base ?_ (by assumption))))⟩
    · have HF : Hid (badEv (x, m) = false) := Lib.hid (by simp [badEv, okEv, hm, hx])
      go_enter Tryz.func66, Tryz.ntmps66
      go_wp2_with (first | (go_at_call 67; refine (register_any _ _).mono ?_; rintro e w' ⟨rfl, rfl⟩) | (go_at_call 34; refine (mIs_any _ _).mono ?_; rintro e w' ⟨rfl, rfl⟩))
      go_ret
      exact ⟨bool_eq HF.out.symm, (by repeat (first | (with_reducible exact grow_refl _) | (with_reducible assumption) | (with_reducible refine grow_alloc ?_ _) | (with_reducible refine grow_set ?_ (by first | exact Nat.le_refl _ | (simp; done) | (simp; omega) | omega) _) | (with_reducible refine grow_drewN ?_ _) | (with_reducible refine grow_drew ?_) | (with_reducible refine grow_step ?_ (by assumption)) | (with_reducible refine grow_base ?_ (by assumption))))⟩

set_option maxHeartbeats 1000000 in
theorem indexEv_any (A : Option Addr) (c : Nat) (es : List (Int × Int)) (w : World) (hA : EvsAt w A es) (hbig : es.length ≤ 9223372036854775806) :
    Calls Tryz.prog 93 #[.slice A es.length c, .func (.func 66) #[] #[]] w (IndexPostE (es.any badEv) w) := by
  have HA := Lib.hid hA
  clear hA
  go_enter Tryz.func93, Tryz.ntmps93
  go_wp2
  go_loopw [5, 8] (fun _ i wr => ∃ k : Nat, k ≤ es.length ∧ i = .int .i64 k ∧ Hid ((es.take k).any badEv = false) ∧ Below w.heap.size w wr) (fun _ i _ => es.length - (intOf i).toNat)
  case atStart => exact ⟨0, Nat.zero_le _, rfl, Lib.hid (by simp), (by repeat (first | (with_reducible exact grow_refl _) | (with_reducible assumption) | (with_reducible refine grow_alloc ?_ _) | (with_reducible refine grow_set ?_ (by first | exact Nat.le_refl _ | (simp; done) | (simp; omega) | omega) _) | (with_reducible refine grow_drewN ?_ _) | (with_reducible refine grow_drew ?_) | (with_reducible refine grow_step ?_ (by assumption)) | (with_reducible refine grow_base ?_ (by assumption))))⟩
  case round =>
    obtain ⟨k, hk, rfl, HP, hb⟩ := hrel
    by_cases hlt : k < es.length
    · obtain ⟨b, off, rfl, _, h1, h2⟩ := (HA.out.below hb) k hlt
      obtain ⟨⟨x, m⟩, hxe⟩ : ∃ x, es.getD k (0, 0) = x := ⟨_, rfl⟩
      rw [hxe] at h1 h2
      simp only at h1 h2
      have HV := Lib.hid hxe
      clear hxe
      cases hp : badEv (x, m)
      · have HQ := Lib.hid (anyE_step (pr := badEv) k hlt HP.out (HV.out ▸ hp))
        go_wp2_with (go_at_call 66; refine (evCheck1_any _ _ _).mono ?_; rintro e w1 ⟨rfl, hb1⟩)
        go_roundw
        case rel => exact ⟨k + 1, by omega, by go_num, HQ, (by repeat (first | (with_reducible exact grow_refl _) | (with_reducible assumption) | (with_reducible refine grow_alloc ?_ _) | (with_reducible refine grow_set ?_ (by first | exact Nat.le_refl _ | (simp; done) | (simp; omega) | omega) _) | (with_reducible refine grow_drewN ?_ _) | (with_reducible refine grow_drew ?_) | (with_reducible refine grow_step ?_ (by assumption)) | (with_reducible refine grow_base ?_ (by assumption))))⟩
        case measure => simp [intOf]; omega
      · have HQ := Lib.hid (anyE_at (pr := badEv) k hlt (HV.out ▸ hp))
        go_wp2_with (go_at_call 66; refine (evCheck1_any _ _ _).mono ?_; rintro e w1 ⟨rfl, hb1⟩)
        go_ret
        exact ⟨k, rfl, by omega, by omega, fun _ => by omega, (fun h => by rw [HQ.out] at h; cases h), (by repeat (first | (with_reducible exact grow_refl _) | (with_reducible assumption) | (with_reducible refine grow_alloc ?_ _) | (with_reducible refine grow_set ?_ (by first | exact Nat.le_refl _ | (simp; done) | (simp; omega) | omega) _) | (with_reducible refine grow_drewN ?_ _) | (with_reducible refine grow_drew ?_) | (with_reducible refine grow_step ?_ (by assumption)) | (with_reducible refine grow_base ?_ (by assumption))))⟩
    · have HQ : Hid (es.any badEv = false) := Lib.hid (by have := HP.out; rwa [List.take_of_length_le (by omega)] at this)
      go_wp2_with fail
      go_ret
      exact ⟨-1, rfl, by omega, by omega, (fun h => by rw [HQ.out] at h; cases h), fun _ => by omega, (by repeat (first | (with_reducible exact grow_refl _) | (with_reducible assumption) | (with_reducible refine grow_alloc ?_ _) | (with_reducible refine grow_set ?_ (by first | exact Nat.le_refl _ | (simp; done) | (simp; omega) | omega) _) | (with_reducible refine grow_drewN ?_ _) | (with_reducible refine grow_drew ?_) | (with_reducible refine grow_step ?_ (by assumption)) | (with_reducible refine grow_base ?_ (by assumption))))⟩

set_option maxHeartbeats 400000 in
theorem containsEv_any (A : Option Addr) (c : Nat) (es : List (Int × Int)) (w : World) (hA : EvsAt w A es) (hbig : es.length ≤ 9223372036854775806) :
    Calls Tryz.prog 65 #[.slice A es.length c, .func (.func 66) #[] #[]] w fun e w' => e = .returned (.bool (es.any badEv)) ∧ Below w.heap.size w w' := by
  have HC := Lib.hid (indexEv_any A c es w hA hbig)
  clear hA
  cases h : es.any badEv
  · go_enter Tryz.func65, Tryz.ntmps65
    go_wp2_with fail
    refine HC.out.mono ?_
    rintro e w' ⟨i, rfl, i1, i2, i3, i4, hb⟩
    have i5 := i4 h
    clear i3 i4 h
    go_wp2_with fail
    go_ret
    exact ⟨bool_eq (by simp; omega), hb⟩
  · go_enter Tryz.func65, Tryz.ntmps65
    go_wp2_with fail
    refine HC.out.mono ?_
    rintro e w' ⟨i, rfl, i1, i2, i3, i4, hb⟩
    have i5 := i3 h
    clear i3 i4 h
    go_wp2_with fail
    go_ret
    exact ⟨bool_eq (by simp; try omega), hb⟩

theorem any_bad (es : List (Int × Int)) : es.any badEv = !(es.all okEv) := by
  rw [List.not_all_eq_any_not]; rfl

set_option maxHeartbeats 400000 in
theorem evCheck_any (A : Option Addr) (c : Nat) (es : List (Int × Int)) (w : World) (hA : EvsAt w A es) (hbig : es.length ≤ 9223372036854775806) :
    Calls Tryz.prog 41 #[.slice A es.length c] w fun e w' => e = .returned (errV (evE es)) ∧ Below w.heap.size w w' := by
  have HA := Lib.hid hA
  clear hA
  by_cases hl : 30 < es.length
  · have HF : Hid (evE es = 4) := Lib.hid (by unfold evE; rw [if_pos hl])
    go_enter Tryz.func41, Tryz.ntmps41
    go_wp2
    go_ret
    exact ⟨by rw [HF.out]; rfl, (by repeat (first | (with_reducible exact grow_refl _) | (with_reducible assumption) | (with_reducible refine grow_alloc ?_ _) | (with_reducible refine grow_set ?_ (by first | exact Nat.le_refl _ | (simp; done) | (simp; omega) | omega) _) | (with_reducible refine grow_drewN ?_ _) | (with_reducible refine grow_drew ?_) | (with_reducible refine grow_step ?_ (by assumption)) | (with_reducible refine grow_base ?_ (by assumption))))⟩
  · have hany := any_bad es
    cases ha : es.all okEv
    · have HF : Hid (evE es = 1) := Lib.hid (by unfold evE; rw [if_neg hl, ha]; rfl)
      rw [ha] at hany
      clear ha
      go_enter Tryz.func41, Tryz.ntmps41
      go_wp2_with (go_at_call 65; refine (containsEv_any A c es _ HA.out hbig).mono ?_; rintro e w1 ⟨rfl, hb1⟩)
      go_ret
      exact ⟨by rw [HF.out]; rfl, (by repeat (first | (with_reducible exact grow_refl _) | (with_reducible assumption) | (with_reducible refine grow_alloc ?_ _) | (with_reducible refine grow_set ?_ (by first | exact Nat.le_refl _ | (simp; done) | (simp; omega) | omega) _) | (with_reducible refine grow_drewN ?_ _) | (with_reducible refine grow_drew ?_) | (with_reducible refine grow_step ?_ (by assumption)) | (with_reducible refine grow_base ?_ (by assumption))))⟩
    · have HF : Hid (evE es = 0) := Lib.hid (by unfold evE; rw [if_neg hl, ha]; rfl)
      rw [ha] at hany
      clear ha
      go_enter Tryz.func41, Tryz.ntmps41
      go_wp2_with (go_at_call 65; refine (containsEv_any A c es _ HA.out hbig).mono ?_; rintro e w1 ⟨rfl, hb1⟩)
      go_ret
      exact ⟨by rw [HF.out]; rfl, (by repeat (first | (with_reducible exact grow_refl _) | (with_reducible assumption) | (with_reducible refine grow_alloc ?_ _) | (with_reducible refine grow_set ?_ (by first | exact Nat.le_refl _ | (simp; done) | (simp; omega) | omega) _) | (with_reducible refine grow_drewN ?_ _) | (with_reducible refine grow_drew ?_) | (with_reducible refine grow_step ?_ (by assumption)) | (with_reducible refine grow_base ?_ (by assumption))))⟩

def AgainPost (b : List Int) (w : World) (e : Ending) (w' : World) : Prop :=
  ∃ y0 y1 y2 y3 y4 y5 y6 y7 : Int, [y0, y1, y2, y3, y4, y5, y6, y7] = b ∧ e = .returned (.agg #[.int .i64 y0, .int .i64 y1, .int .i64 y2, .int .i64 y3, .int .i64 y4, .int .i64 y5, .int .i64 y6, .int .i64 y7]) ∧ Below w.heap.size w w'

theorem zeros8 : (#[.int .i64 0, .int .i64 0, .int .i64 0, .int .i64 0, .int .i64 0, .int .i64 0, .int .i64 0, .int .i64 0] : Array Value) = ([0, 0, 0, 0, 0, 0, 0, 0].map (Value.int .i64)).toArray := rfl

set_option maxHeartbeats 2000000 in
theorem again_any (A : Option Addr) (c : Nat) (es : List (Int × Int)) (w : World) (hA : EvsAt w A es) (hbig : es.length ≤ 9223372036854775806) (hok : es.all okEv = true) :
    Calls Tryz.prog 43 #[.slice A es.length c] w (AgainPost (evBank es) w) := by
  have HA := Lib.hid hA
  have HO := Lib.hid hok
  clear hA hok
  go_enter Tryz.func43, Tryz.ntmps43
  go_wp2
  go_loopw [8] (fun i wr => ∃ k : Nat, ∃ B : List Int, k ≤ es.length ∧ i = .int .i64 k ∧ Hid (B = evBank (es.take k)) ∧ Below w.heap.size w wr ∧ Box wr w.heap.size 54 #[.int .i64 0, .int .i64 0, .int .i64 0, .int .i64 0, .int .i64 0, .int .i64 0, .int .i64 0, .int .i64 0] ∧ Box wr (w.heap.size + 1) 54 (B.map (Value.int .i64)).toArray) (fun i _ => es.length - (intOf i).toNat)
  case atStart => exact ⟨0, [0, 0, 0, 0, 0, 0, 0, 0], Nat.zero_le _, rfl, Lib.hid rfl, (by repeat (first | (with_reducible exact grow_refl _) | (with_reducible assumption) | (with_reducible refine grow_alloc ?_ _) | (with_reducible refine grow_set ?_ (by first | exact Nat.le_refl _ | (simp; done) | (simp; omega) | omega) _) | (with_reducible refine grow_drewN ?_ _) | (with_reducible refine grow_drew ?_) | (with_reducible refine grow_step ?_ (by assumption)) | (with_reducible refine grow_base ?_ (by assumption)))), (Box.new _ _ _).below (grow_alloc (grow_refl _) _), (by have := Box.new (w.alloc (.cells #[.int .i64 0, .int .i64 0, .int .i64 0, .int .i64 0, .int .i64 0, .int .i64 0, .int .i64 0, .int .i64 0] 54)) 54 #[.int .i64 0, .int .i64 0, .int .i64 0, .int .i64 0, .int .i64 0, .int .i64 0, .int .i64 0, .int .i64 0]; simpa using this)⟩
  case round =>
    obtain ⟨k, B, hk, rfl, HB, hb, b1, b2⟩ := hrel
    have hl8 : B.length = 8 := by rw [HB.out]; exact evBank_len _
    have HL8 := Lib.hid hl8
    clear hl8
    by_cases hlt : k < es.length
    · obtain ⟨b, off, rfl, hbl, h1, h2⟩ := (HA.out.below hb) k hlt
      have hs := take_snoc es (0, 0) k hlt
      obtain ⟨⟨x, m⟩, hxe⟩ : ∃ x, es.getD k (0, 0) = x := ⟨_, rfl⟩
      have hmem : (x, m) ∈ es := by rw [← hxe, List.getD_eq_getElem?_getD, List.getElem?_eq_getElem hlt]; exact List.getElem_mem hlt
      have hok := List.all_eq_true.1 HO.out _ hmem
      rw [hxe] at h1 h2 hs
      simp only at h1 h2
      have hx : okReg x = true := by simp only [okEv, Bool.and_eq_true] at hok; exact hok.1
      have hm : okM m = true := by simp only [okEv, Bool.and_eq_true] at hok; exact hok.2
      have hx' := okReg_yes hx
      obtain ⟨r, rfl⟩ := Int.eq_ofNat_of_zero_le hx'.1
      have hr8 : r < 8 := by omega
      have hcb := b2.at_ r (by rw [HL8.out]; exact hr8)
      have hB1 : B.all okM = true := by rw [HB.out]; exact evBank_ok _
      obtain ⟨v, hv⟩ : ∃ v, B.getD r 0 = v := ⟨_, rfl⟩
      have kv : okM v = true := by rw [← hv]; exact all_at hB1 r (by rw [HL8.out]; exact hr8)
      rw [hv] at hcb
      have HS : Hid (B.set r (pairM v m) = evBank (es.take (k + 1))) := Lib.hid (by rw [hs, evBank_snoc, ← HB.out, ← hv]; rfl)
      clear hs hxe hmem hok hx hx' hB1 hv
      have g1 : (r : Int) < 8 := by omega
      have g2 : (0 : Int) ≤ (r : Int) := by omega
      have lb2 := b2.lt
      have fb2 := b2.frozen
      go_wp2
      go_region_with (go_at_call 63; refine (pair_any _ _ _ kv hm).mono ?_; rintro e w' ⟨rfl, rfl⟩)
      all_goals
        go_wp2
        go_roundw
        case rel => exact ⟨k + 1, B.set r (pairM v m), by omega, by go_num, HS, (by repeat (first | (with_reducible exact grow_refl _) | (with_reducible assumption) | (with_reducible refine grow_alloc ?_ _) | (with_reducible refine grow_set ?_ (by first | exact Nat.le_refl _ | (simp; done) | (simp; omega) | omega) _) | (with_reducible refine grow_drewN ?_ _) | (with_reducible refine grow_drew ?_) | (with_reducible refine grow_step ?_ (by assumption)) | (with_reducible refine grow_base ?_ (by assumption)))), ((b1.far (p := ⟨w.heap.size + 1, r, none⟩) (by simp) _).alloc_ _).drew_, ((b2.setI r (pairM v m)).alloc_ _).drew_⟩
        case measure => simp [intOf]; omega
    · have HF : Hid (evBank es = B) := Lib.hid (by rw [HB.out, List.take_of_length_le (by omega)])
      obtain ⟨y0, y1, y2, y3, y4, y5, y6, y7, hy⟩ := list8 HL8.out
      have b2' : Box wr (w.heap.size + 1) 54 #[.int .i64 y0, .int .i64 y1, .int .i64 y2, .int .i64 y3, .int .i64 y4, .int .i64 y5, .int .i64 y6, .int .i64 y7] := by rw [hy] at b2; exact b2
      have HY := Lib.hid hy
      clear hy b2
      have c2 := b2'.cell; have l2 := b2'.lt; have f1 := b1.frozen; have c1 := b1.cell; have l1 := b1.lt
      go_wp2
      refine bodyPost_ret (v := .agg #[.int .i64 y0, .int .i64 y1, .int .i64 y2, .int .i64 y3, .int .i64 y4, .int .i64 y5, .int .i64 y6, .int .i64 y7]) (ret_cell Tryz.results43 rfl (b1.fill8 _ _ _ _ _ _ _ _) Tryz.underlying54 rfl (by kernel_rfl)) rfl ?_
      exact ⟨y0, y1, y2, y3, y4, y5, y6, y7, by rw [HF.out, HY.out], rfl, (by repeat (first | (with_reducible exact grow_refl _) | (with_reducible assumption) | (with_reducible refine grow_alloc ?_ _) | (with_reducible refine grow_set ?_ (by first | exact Nat.le_refl _ | (simp; done) | (simp; omega) | omega) _) | (with_reducible refine grow_drewN ?_ _) | (with_reducible refine grow_drew ?_) | (with_reducible refine grow_step ?_ (by assumption)) | (with_reducible refine grow_base ?_ (by assumption))))⟩

end Go.Proofs.YtkipjloapdolbaaGreatDoor
