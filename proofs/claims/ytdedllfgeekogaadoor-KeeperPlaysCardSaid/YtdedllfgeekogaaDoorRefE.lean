/- The walks of the reference: events. -/
import Derived.Test.YtdedllfgeekogaaDoorRows
import Derived.Test.YtdedllfgeekogaaDoorNum
import Derived.Test.YtdedllfgeekogaaDoorBase
import Derived.Test.YtdedllfgeekogaaDoorMeas
import Derived.Test.YtdedllfgeekogaaDoorBank
import Derived.Test.YtdedllfgeekogaaDoorEvent
import Derived.Test.YtdedllfgeekogaaDoorRefA
import Derived.Test.YtdedllfgeekogaaDoorRefB
import Derived.WalkKit
import Derived.Lib.Hide
import Derived.Deep.RegionWith
import Derived.BigRegion
namespace Go.Proofs.YtdedllfgeekogaaDoor
open Go.RowKit

theorem okEv_step {es : List (Int × Int)} (k : Nat) (h : k < es.length) (hp : (es.take k).all okEv = true) (hk : okEv (es.getD k (0, 0)) = true) : (es.take (k + 1)).all okEv = true := by
  rw [take_snoc es (0, 0) k h, List.all_append, hp, List.all_cons, List.all_nil, hk]; rfl
theorem okEv_not {es : List (Int × Int)} (k : Nat) (h : k < es.length) (hk : okEv (es.getD k (0, 0)) = false) : es.all okEv = false := by
  rw [List.all_eq_false]
  refine ⟨es.getD k (0, 0), ?_, by rw [hk]; decide⟩
  rw [List.getD_eq_getElem?_getD, List.getElem?_eq_getElem h]; exact List.getElem_mem h

set_option maxHeartbeats 1000000 in
theorem rEvents_any (A : Option Addr) (c : Nat) (es : List (Int × Int)) (w : World) (hA : EvsAt w A es) (hbig : es.length ≤ 9223372036854775806) :
    Calls Tryd.prog 63 #[.slice A es.length c] w fun e w' => e = .returned (.int .i64 (evE es)) ∧ w = w' := by
  by_cases hl : 30 < es.length
  · have HE : Hid (evE es = 4) := Lib.hid (by unfold evE; rw [if_pos hl])
    go_enter Tryd.func63, Tryd.ntmps63
    go_wp2
    go_ret
    exact ⟨by rw [HE.out]; rfl, rfl⟩
  · have HA := Lib.hid hA
    clear hA hbig
    go_enter Tryd.func63, Tryd.ntmps63
    go_wp2
    go_loop [3, 4] (fun i _ => ∃ k : Nat, k ≤ es.length ∧ i = .int .i64 k ∧ Hid ((es.take k).all okEv = true)) (fun i _ => es.length - (intOf i).toNat)
    case atStart => exact ⟨0, Nat.zero_le _, rfl, Lib.hid rfl⟩
    case round =>
      obtain ⟨k, hk, rfl, HP⟩ := hrel
      by_cases hlt : k < es.length
      · obtain ⟨b, off, rfl, hbl, h1, h2⟩ := HA.out k hlt
        obtain ⟨⟨x, m⟩, hxe⟩ : ∃ x, es.getD k (0, 0) = x := ⟨_, rfl⟩
        rw [hxe] at h1 h2
        simp only at h1 h2
        have HX := Lib.hid hxe
        clear hxe
        have HF : Hid (okEv (x, m) = false → evE es = 1) := Lib.hid (fun h => by unfold evE; rw [if_neg hl, okEv_not k hlt (by rw [HX.out]; exact h)]; rfl)
        by_cases hx1 : x < 0
        · have HF2 := Lib.hid (HF.out (by unfold okEv; rw [show okReg x = false from decide_eq_false (by omega)]; rfl))
          go_wp2_with (go_at_call 24; refine (rIs_any _ _).mono ?_; rintro e w' ⟨rfl, rfl⟩)
          go_ret
          exact ⟨by rw [HF2.out]; rfl, rfl⟩
        · by_cases hx2 : 7 < x
          · have HF2 := Lib.hid (HF.out (by unfold okEv; rw [show okReg x = false from decide_eq_false (by omega)]; rfl))
            go_wp2_with (go_at_call 24; refine (rIs_any _ _).mono ?_; rintro e w' ⟨rfl, rfl⟩)
            go_ret
            exact ⟨by rw [HF2.out]; rfl, rfl⟩
          · cases hm : okM m
            · have HF2 := Lib.hid (HF.out (by unfold okEv; simp only; rw [hm, Bool.and_false]))
              go_wp2_with (go_at_call 24; refine (rIs_any _ _).mono ?_; rintro e w' ⟨rfl, rfl⟩)
              go_ret
              exact ⟨by rw [HF2.out]; rfl, rfl⟩
            · have HP2 := Lib.hid (okEv_step k hlt HP.out (by rw [HX.out]; unfold okEv; rw [show okReg x = true from decide_eq_true (by omega), hm]; rfl))
              go_wp2_with (go_at_call 24; refine (rIs_any _ _).mono ?_; rintro e w' ⟨rfl, rfl⟩)
              go_round
              case rel => exact ⟨k + 1, by omega, by go_num, HP2⟩
              case measure => simp [intOf]; omega
      · have HF : Hid (evE es = 0) := Lib.hid (by
          have h := HP.out
          rw [List.take_of_length_le (by omega)] at h
          unfold evE; rw [if_neg hl, h]; rfl)
        go_wp2
        go_ret
        exact ⟨by rw [HF.out]; rfl, rfl⟩

set_option maxHeartbeats 2000000 in
theorem rReplay_any (A : Option Addr) (c : Nat) (es : List (Int × Int)) (w : World) (hA : EvsAt w A es) (hbig : es.length ≤ 9223372036854775806) (hok : es.all okEv = true) :
    Calls Tryd.prog 64 #[.slice A es.length c] w (AgainPost (evBank es) w) := by
  have HA := Lib.hid hA
  have HO := Lib.hid hok
  clear hA hok
  go_enter Tryd.func64, Tryd.ntmps64
  go_wp2
  go_loopw [4] (fun i wr => ∃ k : Nat, ∃ B : List Int, k ≤ es.length ∧ i = .int .i64 k ∧ Hid (B = evBank (es.take k)) ∧ Below w.heap.size w wr ∧ Box wr w.heap.size 38 #[.int .i64 0, .int .i64 0, .int .i64 0, .int .i64 0, .int .i64 0, .int .i64 0, .int .i64 0, .int .i64 0] ∧ Box wr (w.heap.size + 1) 38 (B.map (Value.int .i64)).toArray) (fun i _ => es.length - (intOf i).toNat)
  case atStart => exact ⟨0, [0, 0, 0, 0, 0, 0, 0, 0], Nat.zero_le _, rfl, Lib.hid rfl, (by repeat (first | (with_reducible exact grow_refl _) | (with_reducible assumption) | (with_reducible refine grow_alloc ?_ _) | (with_reducible refine grow_set ?_ (by first | exact Nat.le_refl _ | (simp; done) | (simp; omega) | omega) _) | (with_reducible refine grow_drewN ?_ _) | (with_reducible refine grow_drew ?_) | (with_reducible refine grow_step ?_ (by assumption)) | (with_reducible refine grow_base ?_ (by assumption)))), (Box.new _ _ _).below (grow_alloc (grow_refl _) _), (by have := Box.new (w.alloc (.cells #[.int .i64 0, .int .i64 0, .int .i64 0, .int .i64 0, .int .i64 0, .int .i64 0, .int .i64 0, .int .i64 0] 38)) 38 #[.int .i64 0, .int .i64 0, .int .i64 0, .int .i64 0, .int .i64 0, .int .i64 0, .int .i64 0, .int .i64 0]; simpa using this)⟩
  case round =>
    obtain ⟨k, B, hk, rfl, HB, hb, b1, b2⟩ := hrel
    have hl8 : B.length = 8 := by rw [HB.out]; exact evBank_len _
    have HL8 := Lib.hid hl8
    clear hl8
    by_cases hlt : k < es.length
    · obtain ⟨b, off, rfl, hbl, h1, h2⟩ := (HA.out.below hb) k hlt
      have hs := take_snoc es (0, 0) k hlt
      obtain ⟨⟨x, m⟩, hxe⟩ : ∃ x, es.getD k (0, 0) = x := ⟨_, rfl⟩
      have hmem : (x, m) ∈ es := by rw [← hxe, List.getD_eq_getElem?_getD, List.getElem?_eq_getElem hlt]; exact List.getElem_mem hlt
      have hok := List.all_eq_true.1 HO.out _ hmem
      rw [hxe] at h1 h2 hs
      simp only at h1 h2
      have hx : okReg x = true := by simp only [okEv, Bool.and_eq_true] at hok; exact hok.1
      have hm : okM m = true := by simp only [okEv, Bool.and_eq_true] at hok; exact hok.2
      have hx' := okReg_yes hx
      obtain ⟨r, rfl⟩ := Int.eq_ofNat_of_zero_le hx'.1
      have hr8 : r < 8 := by omega
      have hcb := b2.at_ r (by rw [HL8.out]; exact hr8)
      have hB1 : B.all okM = true := by rw [HB.out]; exact evBank_ok _
      obtain ⟨v, hv⟩ : ∃ v, B.getD r 0 = v := ⟨_, rfl⟩
      have kv : okM v = true := by rw [← hv]; exact all_at hB1 r (by rw [HL8.out]; exact hr8)
      rw [hv] at hcb
      have HS : Hid (B.set r (pairM v m) = evBank (es.take (k + 1))) := Lib.hid (by rw [hs, evBank_snoc, ← HB.out, ← hv]; rfl)
      clear hs hxe hmem hok hx hx' hB1 hv
      have g1 : (r : Int) < 8 := by omega
      have g2 : (0 : Int) ≤ (r : Int) := by omega
      have lb2 := b2.lt
      have fb2 := b2.frozen
      go_wp2
      go_region_with (go_at_call 61; refine (rTwo_any _ _ _ kv hm).mono ?_; rintro e w' ⟨rfl, rfl⟩)
      all_goals
        go_wp2
        go_roundw
        case rel => exact ⟨k + 1, B.set r (pairM v m), by omega, by go_num, HS, (by repeat (first | (with_reducible exact grow_refl _) | (with_reducible assumption) | (with_reducible refine grow_alloc ?_ _) | (with_reducible refine grow_set ?_ (by first | exact Nat.le_refl _ | (simp; done) | (simp; omega) | omega) _) | (with_reducible refine grow_drewN ?_ _) | (with_reducible refine grow_drew ?_) | (with_reducible refine grow_step ?_ (by assumption)) | (with_reducible refine grow_base ?_ (by assumption)))), (b1.far (p := ⟨w.heap.size + 1, r, none⟩) (by simp) _).drew_, (b2.setI r (pairM v m)).drew_⟩
        case measure => simp [intOf]; omega
    · have HF : Hid (evBank es = B) := Lib.hid (by rw [HB.out, List.take_of_length_le (by omega)])
      obtain ⟨y0, y1, y2, y3, y4, y5, y6, y7, hy⟩ := list8 HL8.out
      have b2' : Box wr (w.heap.size + 1) 38 #[.int .i64 y0, .int .i64 y1, .int .i64 y2, .int .i64 y3, .int .i64 y4, .int .i64 y5, .int .i64 y6, .int .i64 y7] := by rw [hy] at b2; exact b2
      have HY := Lib.hid hy
      clear hy b2
      have c2 := b2'.cell; have l2 := b2'.lt; have f1 := b1.frozen; have c1 := b1.cell; have l1 := b1.lt
      go_wp2
      refine bodyPost_ret (v := .agg #[.int .i64 y0, .int .i64 y1, .int .i64 y2, .int .i64 y3, .int .i64 y4, .int .i64 y5, .int .i64 y6, .int .i64 y7]) (ret_cell Tryd.results64 rfl (b1.fill8 _ _ _ _ _ _ _ _) Tryd.underlying38 rfl (by kernel_rfl)) rfl ?_
      exact ⟨y0, y1, y2, y3, y4, y5, y6, y7, by rw [HF.out, HY.out], rfl, (by repeat (first | (with_reducible exact grow_refl _) | (with_reducible assumption) | (with_reducible refine grow_alloc ?_ _) | (with_reducible refine grow_set ?_ (by first | exact Nat.le_refl _ | (simp; done) | (simp; omega) | omega) _) | (with_reducible refine grow_drewN ?_ _) | (with_reducible refine grow_drew ?_) | (with_reducible refine grow_step ?_ (by assumption)) | (with_reducible refine grow_base ?_ (by assumption))))⟩

end Go.Proofs.YtdedllfgeekogaaDoor
