/- The walks of package cert. cert.Make. -/
import Derived.Test.YtdedllfgeekogaaGreatDoorRows
import Derived.Test.YtdedllfgeekogaaGreatDoorNum
import Derived.Test.YtdedllfgeekogaaGreatDoorBase
import Derived.Test.YtdedllfgeekogaaGreatDoorMeas
import Derived.Test.YtdedllfgeekogaaGreatDoorKey
import Derived.WalkKit
import Derived.Lib.Hide
namespace Go.Proofs.YtdedllfgeekogaaGreatDoor
open Go.RowKit

def CertsAt (w : World) (A : Option Addr) (cs : List (Int × Int × Int)) : Prop :=
  ∀ i, i < cs.length → ∃ b off, A = some ⟨b, off, none⟩ ∧ b < w.heap.size ∧ w.cell? ⟨b, off + i * 3, none⟩ = some (.int .i64 (cs.getD i (0, 0, 0)).1) ∧
    w.cell? ⟨b, off + i * 3 + 1, none⟩ = some (.int .i64 (cs.getD i (0, 0, 0)).2.1) ∧ w.cell? ⟨b, off + i * 3 + 2, none⟩ = some (.int .i64 (cs.getD i (0, 0, 0)).2.2)
theorem CertsAt.below {w w' : World} {A : Option Addr} {cs : List (Int × Int × Int)} (h : CertsAt w A cs) (hb : Below w.heap.size w w') : CertsAt w' A cs := fun i hi => by
  obtain ⟨b, off, e, hlt, h1, h2, h3⟩ := h i hi
  exact ⟨b, off, e, Nat.lt_of_lt_of_le hlt hb.size, (hb.cell (p := ⟨b, off + i * 3, none⟩) hlt).trans h1, (hb.cell (p := ⟨b, off + i * 3 + 1, none⟩) hlt).trans h2, (hb.cell (p := ⟨b, off + i * 3 + 2, none⟩) hlt).trans h3⟩
theorem CertsAt.nil_ (w : World) (A : Option Addr) : CertsAt w A [] := fun i hi => absurd hi (by simp)

set_option maxHeartbeats 1000000 in
theorem last_any (root : Int) (A : Option Addr) (c : Nat) (cs : List (Int × Int × Int)) (w : World) (hA : CertsAt w A cs) (hbig : cs.length ≤ 9223372036854775807) :
    Calls Tryz.prog 117 #[.int .i64 root, .slice A cs.length c] w fun e w' => e = .returned (.tuple #[.int .i64 (certLast root cs).1, errV (certLast root cs).2]) ∧ Below w.heap.size w w' := by
  have en := fun k w => err_neq k w
  have gn := fun o k w => err_guard_neq o k w
  by_cases hl : 12 < cs.length
  · have HE : Hid (certLast root cs = (0, 4)) := Lib.hid (by simp [certLast, hl])
    go_enter Tryz.func117, Tryz.ntmps117
    go_wp2_with (go_at_call 48; refine (in_any _ _).mono ?_; rintro e w' ⟨rfl, rfl⟩)
    go_ret2
    exact ⟨by rw [HE.out]; rfl, (by repeat (first | (with_reducible exact grow_refl _) | (with_reducible assumption) | (with_reducible refine grow_alloc ?_ _) | (with_reducible refine grow_set ?_ (by first | exact Nat.le_refl _ | (simp; done) | (simp; omega) | omega) _) | (with_reducible refine grow_drewN ?_ _) | (with_reducible refine grow_drew ?_) | (with_reducible refine grow_step ?_ (by assumption)) | (with_reducible refine grow_base ?_ (by assumption))))⟩
  · cases hr : okIn root
    · have HE : Hid (certLast root cs = (0, 1)) := Lib.hid (by simp [certLast, hl, hr])
      go_enter Tryz.func117, Tryz.ntmps117
      go_wp2_with (go_at_call 48; refine (in_any _ _).mono ?_; rintro e w' ⟨rfl, rfl⟩)
      go_ret2
      exact ⟨by rw [HE.out]; rfl, (by repeat (first | (with_reducible exact grow_refl _) | (with_reducible assumption) | (with_reducible refine grow_alloc ?_ _) | (with_reducible refine grow_set ?_ (by first | exact Nat.le_refl _ | (simp; done) | (simp; omega) | omega) _) | (with_reducible refine grow_drewN ?_ _) | (with_reducible refine grow_drew ?_) | (with_reducible refine grow_step ?_ (by assumption)) | (with_reducible refine grow_base ?_ (by assumption))))⟩
    · have HE : Hid (certLast root cs = lastGo root cs) := Lib.hid (by simp [certLast, hl, hr])
      have HR := Lib.hid hr
      have HA := Lib.hid hA
      clear hA hbig
      go_enter Tryz.func117, Tryz.ntmps117
      go_wp2_with (go_at_call 48; refine (in_any _ _).mono ?_; rintro e w' ⟨rfl, rfl⟩)
      clear hr
      go_loopw [0, 21] (fun r i wr => ∃ (k : Nat) (q : Int), k ≤ cs.length ∧ i = .int .i64 k ∧ r = .int .i64 q ∧ Hid (okIn q = true) ∧ Hid (lastGo root cs = lastGo q (cs.drop k)) ∧ Below w.heap.size w wr) (fun _ i _ => cs.length - (intOf i).toNat)
      case atStart => exact ⟨0, root, Nat.zero_le _, rfl, rfl, HR, Lib.hid rfl, grow_refl _⟩
      case round =>
        obtain ⟨k, q, hk, rfl, rfl, HQ, HL, hb⟩ := hrel
        by_cases hlt : k < cs.length
        · obtain ⟨b, off, rfl, hblt, h1, h2, h3⟩ := (HA.out.below hb) k hlt
          have HD := Lib.hid (drop_cons cs (0, 0, 0) k hlt)
          obtain ⟨⟨x, p, a⟩, hxe⟩ : ∃ t, cs.getD k (0, 0, 0) = t := ⟨_, rfl⟩
          rw [hxe] at h1 h2 h3 HD
          clear hxe
          simp only at h1 h2 h3
          have HS : Hid (lastGo root cs = if okIn x then (if rightE q x p a = 0 then lastGo x (cs.drop (k + 1)) else (0, rightE q x p a)) else (0, 1)) := Lib.hid (by rw [HL.out, HD.out]; rfl)
          clear HL HD
          cases hx : okIn x
          · have HF : Hid (lastGo root cs = (0, 1)) := Lib.hid (by rw [HS.out, hx]; rfl)
            go_wp2_with (go_at_call 48; refine (in_any _ _).mono ?_; rintro e w' ⟨rfl, rfl⟩)
            go_ret2
            exact ⟨by rw [HE.out, HF.out]; rfl, (by repeat (first | (with_reducible exact grow_refl _) | (with_reducible assumption) | (with_reducible refine grow_alloc ?_ _) | (with_reducible refine grow_set ?_ (by first | exact Nat.le_refl _ | (simp; done) | (simp; omega) | omega) _) | (with_reducible refine grow_drewN ?_ _) | (with_reducible refine grow_drew ?_) | (with_reducible refine grow_step ?_ (by assumption)) | (with_reducible refine grow_base ?_ (by assumption))))⟩
          · by_cases hz : rightE q x p a = 0
            · have HF : Hid (lastGo root cs = lastGo x (cs.drop (k + 1))) := Lib.hid (by rw [HS.out, hx, hz]; rfl)
              have HX := Lib.hid hx
              clear HS
              go_wp2_with (first | (go_at_call 48; refine (in_any _ _).mono ?_; rintro e w' ⟨rfl, rfl⟩) | (go_at_call 85; refine (right_any _ _ _ _ _).mono ?_; rintro e w1 ⟨rfl, hb1⟩; have B := (Box.new _ _ _).below hb1; have cB := B.cell; have fB := B.frozen; have lB := B.lt))
              go_roundw
              case rel => exact ⟨k + 1, x, by omega, by go_num, rfl, HX, HF, (by repeat (first | (with_reducible exact grow_refl _) | (with_reducible assumption) | (with_reducible refine grow_alloc ?_ _) | (with_reducible refine grow_set ?_ (by first | exact Nat.le_refl _ | (simp; done) | (simp; omega) | omega) _) | (with_reducible refine grow_drewN ?_ _) | (with_reducible refine grow_drew ?_) | (with_reducible refine grow_step ?_ (by assumption)) | (with_reducible refine grow_base ?_ (by assumption))))⟩
              case measure => simp [intOf]; omega
            · have HF : Hid (lastGo root cs = (0, rightE q x p a)) := Lib.hid (by rw [HS.out, hx, if_neg hz]; rfl)
              have hz' : (rightE q x p a != 0) = true := by simpa using hz
              clear hz
              go_wp2_with (first | (go_at_call 48; refine (in_any _ _).mono ?_; rintro e w' ⟨rfl, rfl⟩) | (go_at_call 85; refine (right_any _ _ _ _ _).mono ?_; rintro e w1 ⟨rfl, hb1⟩; have B := (Box.new _ _ _).below hb1; have cB := B.cell; have fB := B.frozen; have lB := B.lt))
              go_ret2
              exact ⟨by rw [HE.out, HF.out]; rfl, (by repeat (first | (with_reducible exact grow_refl _) | (with_reducible assumption) | (with_reducible refine grow_alloc ?_ _) | (with_reducible refine grow_set ?_ (by first | exact Nat.le_refl _ | (simp; done) | (simp; omega) | omega) _) | (with_reducible refine grow_drewN ?_ _) | (with_reducible refine grow_drew ?_) | (with_reducible refine grow_step ?_ (by assumption)) | (with_reducible refine grow_base ?_ (by assumption))))⟩
        · have HF : Hid (lastGo root cs = (q, 0)) := Lib.hid (by rw [HL.out, List.drop_eq_nil_of_le (by omega)]; rfl)
          go_wp2
          go_ret2
          exact ⟨by rw [HE.out, HF.out]; rfl, (by repeat (first | (with_reducible exact grow_refl _) | (with_reducible assumption) | (with_reducible refine grow_alloc ?_ _) | (with_reducible refine grow_set ?_ (by first | exact Nat.le_refl _ | (simp; done) | (simp; omega) | omega) _) | (with_reducible refine grow_drewN ?_ _) | (with_reducible refine grow_drew ?_) | (with_reducible refine grow_step ?_ (by assumption)) | (with_reducible refine grow_base ?_ (by assumption))))⟩

end Go.Proofs.YtdedllfgeekogaaGreatDoor

namespace Go.Proofs.YtdedllfgeekogaaGreatDoor
open Go.RowKit

def cmE (x k q : Int) : Int := if okIn q then sgE x k q else 1
def cmV (x k q : Int) : Int × Int × Int := if cmE x k q = 0 then (q, sgP x k q, sgA x k q) else (0, 0, 0)


end Go.Proofs.YtdedllfgeekogaaGreatDoor
