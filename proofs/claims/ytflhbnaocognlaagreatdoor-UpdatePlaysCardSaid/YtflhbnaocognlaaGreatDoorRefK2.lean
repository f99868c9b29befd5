/- The walks of the reference: whether a seal is right; the last key of certs. -/
import Derived.Test.YtflhbnaocognlaaGreatDoorRows
import Derived.Test.YtflhbnaocognlaaGreatDoorNum
import Derived.Test.YtflhbnaocognlaaGreatDoorBase
import Derived.Test.YtflhbnaocognlaaGreatDoorMeas
import Derived.Test.YtflhbnaocognlaaGreatDoorKey
import Derived.Test.YtflhbnaocognlaaGreatDoorCert
import Derived.Test.YtflhbnaocognlaaGreatDoorRefA
import Derived.Test.YtflhbnaocognlaaGreatDoorRefB
import Derived.Test.YtflhbnaocognlaaGreatDoorRefK
import Derived.WalkKit
import Derived.Lib.Hide
import Derived.Deep.RegionHeld3
namespace Go.Proofs.YtflhbnaocognlaaGreatDoor
open Go.RowKit

set_option maxHeartbeats 1000000 in
theorem rRight_any (q m p a : Int) (w : World) :
    Calls Tryz.prog 47 #[.int .i64 q, .int .i64 m, .agg #[.int .i64 p, .int .i64 a]] w fun e w' => e = .returned (.int .i64 (rightE q m p a)) ∧ Below w.heap.size w w' := by
  cases hq : okIn q
  · have HE : Hid (rightE q m p a = 1) := Lib.hid (by simp [rightE, okSeal, hq])
    go_enter Tryz.func47, Tryz.ntmps47
    go_wp2_with (first | (go_at_call 46; refine (rIn_any _ _).mono ?_; rintro e w' ⟨rfl, rfl⟩) | (go_at_call 59; refine (rIs_any _ _).mono ?_; rintro e w' ⟨rfl, rfl⟩))
    go_ret
    exact ⟨by rw [HE.out]; rfl, (by repeat (first | (with_reducible exact grow_refl _) | (with_reducible assumption) | (with_reducible refine grow_alloc ?_ _) | (with_reducible refine grow_set ?_ (by first | exact Nat.le_refl _ | (simp; done) | (simp; omega) | omega) _) | (with_reducible refine grow_drewN ?_ _) | (with_reducible refine grow_drew ?_) | (with_reducible refine grow_step ?_ (by assumption)) | (with_reducible refine grow_base ?_ (by assumption))))⟩
  · cases hp : okIn p
    · have HE : Hid (rightE q m p a = 1) := Lib.hid (by simp [rightE, okSeal, hp])
      go_enter Tryz.func47, Tryz.ntmps47
      go_wp2_with (first | (go_at_call 46; refine (rIn_any _ _).mono ?_; rintro e w' ⟨rfl, rfl⟩) | (go_at_call 59; refine (rIs_any _ _).mono ?_; rintro e w' ⟨rfl, rfl⟩))
      go_ret
      exact ⟨by rw [HE.out]; rfl, (by repeat (first | (with_reducible exact grow_refl _) | (with_reducible assumption) | (with_reducible refine grow_alloc ?_ _) | (with_reducible refine grow_set ?_ (by first | exact Nat.le_refl _ | (simp; done) | (simp; omega) | omega) _) | (with_reducible refine grow_drewN ?_ _) | (with_reducible refine grow_drew ?_) | (with_reducible refine grow_step ?_ (by assumption)) | (with_reducible refine grow_base ?_ (by assumption))))⟩
    · cases hm : okM m
      · have HE : Hid (rightE q m p a = 1) := Lib.hid (by simp [rightE, okSeal, hm])
        go_enter Tryz.func47, Tryz.ntmps47
        go_wp2_with (first | (go_at_call 46; refine (rIn_any _ _).mono ?_; rintro e w' ⟨rfl, rfl⟩) | (go_at_call 59; refine (rIs_any _ _).mono ?_; rintro e w' ⟨rfl, rfl⟩))
        go_ret
        exact ⟨by rw [HE.out]; rfl, (by repeat (first | (with_reducible exact grow_refl _) | (with_reducible assumption) | (with_reducible refine grow_alloc ?_ _) | (with_reducible refine grow_set ?_ (by first | exact Nat.le_refl _ | (simp; done) | (simp; omega) | omega) _) | (with_reducible refine grow_drewN ?_ _) | (with_reducible refine grow_drew ?_) | (with_reducible refine grow_step ?_ (by assumption)) | (with_reducible refine grow_base ?_ (by assumption))))⟩
      · by_cases ha : a < 0
        · have HE : Hid (rightE q m p a = 1) := Lib.hid (by
            have : okAns a = false := decide_eq_false (by omega)
            simp [rightE, okSeal, this])
          go_enter Tryz.func47, Tryz.ntmps47
          go_wp2_with (first | (go_at_call 46; refine (rIn_any _ _).mono ?_; rintro e w' ⟨rfl, rfl⟩) | (go_at_call 59; refine (rIs_any _ _).mono ?_; rintro e w' ⟨rfl, rfl⟩))
          go_ret
          exact ⟨by rw [HE.out]; rfl, (by repeat (first | (with_reducible exact grow_refl _) | (with_reducible assumption) | (with_reducible refine grow_alloc ?_ _) | (with_reducible refine grow_set ?_ (by first | exact Nat.le_refl _ | (simp; done) | (simp; omega) | omega) _) | (with_reducible refine grow_drewN ?_ _) | (with_reducible refine grow_drew ?_) | (with_reducible refine grow_step ?_ (by assumption)) | (with_reducible refine grow_base ?_ (by assumption))))⟩
        · by_cases ha2 : 256 < a
          · have HE : Hid (rightE q m p a = 1) := Lib.hid (by
              have : okAns a = false := decide_eq_false (by omega)
              simp [rightE, okSeal, this])
            go_enter Tryz.func47, Tryz.ntmps47
            go_wp2_with (first | (go_at_call 46; refine (rIn_any _ _).mono ?_; rintro e w' ⟨rfl, rfl⟩) | (go_at_call 59; refine (rIs_any _ _).mono ?_; rintro e w' ⟨rfl, rfl⟩))
            go_ret
            exact ⟨by rw [HE.out]; rfl, (by repeat (first | (with_reducible exact grow_refl _) | (with_reducible assumption) | (with_reducible refine grow_alloc ?_ _) | (with_reducible refine grow_set ?_ (by first | exact Nat.le_refl _ | (simp; done) | (simp; omega) | omega) _) | (with_reducible refine grow_drewN ?_ _) | (with_reducible refine grow_drew ?_) | (with_reducible refine grow_step ?_ (by assumption)) | (with_reducible refine grow_base ?_ (by assumption))))⟩
          · have hok : okSeal q m p a = true := by
              have : okAns a = true := decide_eq_true (by omega)
              simp [okSeal, hq, hp, hm, this]
            obtain ⟨q1, q2⟩ := okIn_yes hq
            obtain ⟨c1, c2⟩ := chM_bd p q m
            obtain ⟨m1, m2⟩ := pw_prod_bd (p := p) (q := q) (c := chM p q m) hp
            have kp := okM_of_in hp
            have kq := okM_of_in hq
            have e1 : (IntKind.i64.wrap (p * pwI q (chM p q m))).tmod 1543 = p * pwI q (chM p q m) % 1543 := by
              rw [IntWalk.i64_in _ (by omega), Int.tmod_eq_emod_of_nonneg m1]
            obtain ⟨z, hz⟩ : ∃ z, (IntKind.i64.wrap (p * pwI q (chM p q m))).tmod 1543 = z := ⟨_, rfl⟩
            have heq : rightE q m p a = if pwI 64 a = z then 0 else 8 := by
              unfold rightE eqSeal
              rw [hok, ← hz, e1, if_pos rfl]
              by_cases h : pwI 64 a = p * pwI q (chM p q m) % 1543
              · rw [if_pos h, if_pos (by simpa using h)]
              · rw [if_neg h, if_neg (by simpa using h)]
            have HE := Lib.hid heq
            have HZ := Lib.hid hz
            clear heq hz e1 hok
            go_enter Tryz.func47, Tryz.ntmps47
            go_wp2_with (first | (go_at_call 46; refine (rIn_any _ _).mono ?_; rintro e w' ⟨rfl, rfl⟩) | (go_at_call 59; refine (rIs_any _ _).mono ?_; rintro e w' ⟨rfl, rfl⟩) | (go_at_call 60; refine (rChallenge_any _ _ _ _ kp kq hm).mono ?_; rintro e w1 ⟨rfl, hb1⟩; have BX := (Box.new _ _ _).below hb1; have cX := BX.cell; have lX := BX.lt))
            have hB1 : Below w.heap.size w w1 := (by repeat (first | (with_reducible exact grow_refl _) | (with_reducible assumption) | (with_reducible refine grow_alloc ?_ _) | (with_reducible refine grow_set ?_ (by first | exact Nat.le_refl _ | (simp; done) | (simp; omega) | omega) _) | (with_reducible refine grow_drewN ?_ _) | (with_reducible refine grow_drew ?_) | (with_reducible refine grow_step ?_ (by assumption)) | (with_reducible refine grow_base ?_ (by assumption))))
            go_region_held3 (fun w' => w'.cell? ⟨w.heap.size, 0, none⟩ = some (.int .i64 p) ∧ w'.cell? ⟨w.heap.size, 1, none⟩ = some (.int .i64 a) ∧ Below w.heap.size w w')
              (first
                | (go_keep; done)
                | exact ⟨(cX 0).trans rfl, (cX 1).trans rfl, grow_drew hB1⟩
                | (go_split_ands; exact ⟨by assumption, by assumption, by assumption⟩))
              (first
                | (go_at_call_of 61 (Value.int IntKind.i64 64); refine (rPower_any _ _ _ (by omega) (by omega) (by omega) (by omega)).mono ?_; rintro e w1 ⟨rfl, rfl⟩)
                | (go_at_call 61; refine (rPower_any _ _ _ (by omega) (by omega) (by omega) (by omega)).mono ?_; rintro e w1 ⟨rfl, rfl⟩))
            rw [HZ.out]
            have hB2 := grow_drew hB1
            by_cases h : pwI 64 a = z
            · have t : (pwI 64 a != z) = false := by simp [h]
              have HF : Hid (rightE q m p a = 0) := Lib.hid (by rw [HE.out, if_pos h])
              clear h
              go_wp2_with fail
              go_ret
              exact ⟨by rw [HF.out]; rfl, by assumption⟩
            · have t : (pwI 64 a != z) = true := by simp [h]
              have HF : Hid (rightE q m p a = 8) := Lib.hid (by rw [HE.out, if_neg h])
              clear h
              go_wp2_with fail
              go_ret
              exact ⟨by rw [HF.out]; rfl, by assumption⟩

set_option maxHeartbeats 1000000 in
theorem rLast_any (root : Int) (A : Option Addr) (c : Nat) (cs : List (Int × Int × Int)) (w : World) (hA : CertsAt w A cs) (hbig : cs.length ≤ 9223372036854775807) :
    Calls Tryz.prog 29 #[.int .i64 root, .slice A cs.length c] w fun e w' => e = .returned (.tuple #[.int .i64 (certLast root cs).1, .int .i64 (certLast root cs).2]) ∧ Below w.heap.size w w' := by
  by_cases hl : 12 < cs.length
  · have HE : Hid (certLast root cs = (0, 4)) := Lib.hid (by simp [certLast, hl])
    go_enter Tryz.func29, Tryz.ntmps29
    go_wp2_with (go_at_call 46; refine (rIn_any _ _).mono ?_; rintro e w' ⟨rfl, rfl⟩)
    go_ret2
    exact ⟨by rw [HE.out]; rfl, (by repeat (first | (with_reducible exact grow_refl _) | (with_reducible assumption) | (with_reducible refine grow_alloc ?_ _) | (with_reducible refine grow_set ?_ (by first | exact Nat.le_refl _ | (simp; done) | (simp; omega) | omega) _) | (with_reducible refine grow_drewN ?_ _) | (with_reducible refine grow_drew ?_) | (with_reducible refine grow_step ?_ (by assumption)) | (with_reducible refine grow_base ?_ (by assumption))))⟩
  · cases hr : okIn root
    · have HE : Hid (certLast root cs = (0, 1)) := Lib.hid (by simp [certLast, hl, hr])
      go_enter Tryz.func29, Tryz.ntmps29
      go_wp2_with (go_at_call 46; refine (rIn_any _ _).mono ?_; rintro e w' ⟨rfl, rfl⟩)
      go_ret2
      exact ⟨by rw [HE.out]; rfl, (by repeat (first | (with_reducible exact grow_refl _) | (with_reducible assumption) | (with_reducible refine grow_alloc ?_ _) | (with_reducible refine grow_set ?_ (by first | exact Nat.le_refl _ | (simp; done) | (simp; omega) | omega) _) | (with_reducible refine grow_drewN ?_ _) | (with_reducible refine grow_drew ?_) | (with_reducible refine grow_step ?_ (by assumption)) | (with_reducible refine grow_base ?_ (by assumption))))⟩
    · have HE : Hid (certLast root cs = lastGo root cs) := Lib.hid (by simp [certLast, hl, hr])
      have HR := Lib.hid hr
      have HA := Lib.hid hA
      clear hA hbig
      go_enter Tryz.func29, Tryz.ntmps29
      go_wp2_with (go_at_call 46; refine (rIn_any _ _).mono ?_; rintro e w' ⟨rfl, rfl⟩)
      clear hr
      go_loopw [0, 6, 7, 8] (fun r _ i _ wr => ∃ (k : Nat) (q : Int), k ≤ cs.length ∧ i = .int .i64 k ∧ r = .int .i64 q ∧ Hid (lastGo root cs = lastGo q (cs.drop k)) ∧ Below w.heap.size w wr) (fun _ _ i _ _ => cs.length - (intOf i).toNat)
      case atStart => exact ⟨0, root, Nat.zero_le _, rfl, rfl, Lib.hid rfl, (by repeat (first | (with_reducible exact grow_refl _) | (with_reducible assumption) | (with_reducible refine grow_alloc ?_ _) | (with_reducible refine grow_set ?_ (by first | exact Nat.le_refl _ | (simp; done) | (simp; omega) | omega) _) | (with_reducible refine grow_drewN ?_ _) | (with_reducible refine grow_drew ?_) | (with_reducible refine grow_step ?_ (by assumption)) | (with_reducible refine grow_base ?_ (by assumption))))⟩
      case round =>
        obtain ⟨k, q, hk, rfl, rfl, HL, hb⟩ := hrel
        by_cases hlt : k < cs.length
        · obtain ⟨b, off, rfl, hblt, h1, h2, h3⟩ := (HA.out.below hb) k hlt
          have HD := Lib.hid (drop_cons cs (0, 0, 0) k hlt)
          obtain ⟨⟨x, p, a⟩, hxe⟩ : ∃ t, cs.getD k (0, 0, 0) = t := ⟨_, rfl⟩
          rw [hxe] at h1 h2 h3 HD
          clear hxe
          simp only at h1 h2 h3
          have HS : Hid (lastGo root cs = if okIn x then (if rightE q x p a = 0 then lastGo x (cs.drop (k + 1)) else (0, rightE q x p a)) else (0, 1)) := Lib.hid (by rw [HL.out, HD.out]; rfl)
          clear HL HD
          cases hx : okIn x
          · have HF : Hid (lastGo root cs = (0, 1)) := Lib.hid (by rw [HS.out, hx]; rfl)
            go_wp2_with (go_at_call 46; refine (rIn_any _ _).mono ?_; rintro e w' ⟨rfl, rfl⟩)
            go_ret2
            exact ⟨by rw [HE.out, HF.out]; rfl, (by repeat (first | (with_reducible exact grow_refl _) | (with_reducible assumption) | (with_reducible refine grow_alloc ?_ _) | (with_reducible refine grow_set ?_ (by first | exact Nat.le_refl _ | (simp; done) | (simp; omega) | omega) _) | (with_reducible refine grow_drewN ?_ _) | (with_reducible refine grow_drew ?_) | (with_reducible refine grow_step ?_ (by assumption)) | (with_reducible refine grow_base ?_ (by assumption))))⟩
          · have HS2 : Hid (lastGo root cs = if rightE q x p a = 0 then lastGo x (cs.drop (k + 1)) else (0, rightE q x p a)) := Lib.hid (by rw [HS.out, hx, if_pos rfl])
            have i1 := h1
            have i2 := h2
            have i3 := h3
            clear HS
            go_wp2_with (go_at_call 46; refine (rIn_any _ _).mono ?_; rintro e w' ⟨rfl, rfl⟩)
            go_region_held3 (fun w' => w'.cell? ⟨b, off + k * 3, none⟩ = some (.int .i64 x) ∧ w'.cell? ⟨b, off + k * 3 + 1, none⟩ = some (.int .i64 p) ∧ w'.cell? ⟨b, off + k * 3 + 2, none⟩ = some (.int .i64 a) ∧ Below w.heap.size w w' ∧ b < w'.heap.size)
              (first
                | (go_keep; done)
                | exact ⟨i1, i2, i3, grow_drew hb, hblt⟩
                | (go_split_ands; exact ⟨(hb1.cell (p := ⟨b, off + k * 3, none⟩) (by assumption)).trans (by assumption), (hb1.cell (p := ⟨b, off + k * 3 + 1, none⟩) (by assumption)).trans (by assumption), (hb1.cell (p := ⟨b, off + k * 3 + 2, none⟩) (by assumption)).trans (by assumption), grow_step (by assumption) hb1, Nat.lt_of_lt_of_le (by assumption) hb1.size⟩))
              (first | (go_at_call 47; refine (rRight_any _ _ _ _ _).mono ?_; rintro e w1 ⟨rfl, hb1⟩))
            go_split_ands
            by_cases hz : rightE q x p a = 0
            · have HF : Hid (lastGo root cs = lastGo x (cs.drop (k + 1))) := Lib.hid (by rw [HS2.out, if_pos hz])
              have t : (rightE q x p a != 0) = false := by simp [hz]
              clear hz HS2
              go_wp2_with fail
              go_roundw
              case rel => exact ⟨k + 1, x, by omega, by go_num, rfl, HF, by assumption⟩
              case measure => simp [intOf]; omega
            · have HF : Hid (lastGo root cs = (0, rightE q x p a)) := Lib.hid (by rw [HS2.out, if_neg hz])
              have t : (rightE q x p a != 0) = true := by simp [hz]
              clear hz HS2
              go_wp2_with fail
              go_ret2
              exact ⟨by rw [HE.out, HF.out]; rfl, by assumption⟩
        · have HF : Hid (lastGo root cs = (q, 0)) := Lib.hid (by rw [HL.out, List.drop_eq_nil_of_le (by omega)]; rfl)
          go_wp2
          go_ret2
          exact ⟨by rw [HE.out, HF.out]; rfl, (by repeat (first | (with_reducible exact grow_refl _) | (with_reducible assumption) | (with_reducible refine grow_alloc ?_ _) | (with_reducible refine grow_set ?_ (by first | exact Nat.le_refl _ | (simp; done) | (simp; omega) | omega) _) | (with_reducible refine grow_drewN ?_ _) | (with_reducible refine grow_drew ?_) | (with_reducible refine grow_step ?_ (by assumption)) | (with_reducible refine grow_base ?_ (by assumption))))⟩

end Go.Proofs.YtflhbnaocognlaaGreatDoor
