/- The walks of package cert. cert.Make. -/
import Derived.Test.YtdedllfgeekogaaDoorRows
import Derived.Test.YtdedllfgeekogaaDoorNum
import Derived.Test.YtdedllfgeekogaaDoorBase
import Derived.Test.YtdedllfgeekogaaDoorMeas
import Derived.Test.YtdedllfgeekogaaDoorKey
import Derived.WalkKit
import Derived.Lib.Hide
namespace Go.Proofs.YtdedllfgeekogaaDoor
open Go.RowKit

def CertsAt (w : World) (A : Option Addr) (cs : List (Int × Int × Int)) : Prop :=
  ∀ i, i < cs.length → ∃ b off, A = some ⟨b, off, none⟩ ∧ b < w.heap.size ∧ w.cell? ⟨b, off + i * 3, none⟩ = some (.int .i64 (cs.getD i (0, 0, 0)).1) ∧
    w.cell? ⟨b, off + i * 3 + 1, none⟩ = some (.int .i64 (cs.getD i (0, 0, 0)).2.1) ∧ w.cell? ⟨b, off + i * 3 + 2, none⟩ = some (.int .i64 (cs.getD i (0, 0, 0)).2.2)
theorem CertsAt.below {w w' : World} {A : Option Addr} {cs : List (Int × Int × Int)} (h : CertsAt w A cs) (hb : Below w.heap.size w w') : CertsAt w' A cs := fun i hi => by
  obtain ⟨b, off, e, hlt, h1, h2, h3⟩ := h i hi
  exact ⟨b, off, e, Nat.lt_of_lt_of_le hlt hb.size, (hb.cell (p := ⟨b, off + i * 3, none⟩) hlt).trans h1, (hb.cell (p := ⟨b, off + i * 3 + 1, none⟩) hlt).trans h2, (hb.cell (p := ⟨b, off + i * 3 + 2, none⟩) hlt).trans h3⟩
theorem CertsAt.nil_ (w : World) (A : Option Addr) : CertsAt w A [] := fun i hi => absurd hi (by simp)

set_option maxHeartbeats 1000000 in
theorem last_any (root : Int) (A : Option Addr) (c : Nat) (cs : List (Int × Int × Int)) (w : World) (hA : CertsAt w A cs) (hbig : cs.length ≤ 9223372036854775807) :
    Calls Tryd.prog 110 #[.int .i64 root, .slice A cs.length c] w fun e w' => e = .returned (.tuple #[.int .i64 (certLast root cs).1, errV (certLast root cs).2]) ∧ Below w.heap.size w w' := by
  have en := fun k w => err_neq k w
  have gn := fun o k w => err_guard_neq o k w
  by_cases hl : 12 < cs.length
  · have HE : Hid (certLast root cs = (0, 4)) := Lib.hid (by simp [certLast, hl])
    go_enter Tryd.func110, Tryd.ntmps110
    go_wp2_with (go_at_call 43; refine (in_any _ _).mono ?_; rintro e w' ⟨rfl, rfl⟩)
    go_ret2
    exact ⟨by rw [HE.out]; rfl, (by repeat (first | (with_reducible exact grow_refl _) | (with_reducible assumption) | (with_reducible refine grow_alloc ?_ _) | (with_reducible refine grow_set ?_ (by first | exact Nat.le_refl _ | (simp; done) | (simp; omega) | omega) _) | (with_reducible refine grow_drewN ?_ _) | (with_reducible refine grow_drew ?_) | (with_reducible refine grow_step ?_ (by assumption)) | (with_reducible refine grow_base ?_ (by assumption))))⟩
  · cases hr : okIn root
    · have HE : Hid (certLast root cs = (0, 1)) := Lib.hid (by simp [certLast, hl, hr])
      go_enter Tryd.func110, Tryd.ntmps110
      go_wp2_with (go_at_call 43; refine (in_any _ _).mono ?_; rintro e w' ⟨rfl, rfl⟩)
      go_ret2
      exact ⟨by rw [HE.out]; rfl, (by repeat (first | (with_reducible exact grow_refl _) | (with_reducible assumption) | (with_reducible refine grow_alloc ?_ _) | (with_reducible refine grow_set ?_ (by first | exact Nat.le_refl _ | (simp; done) | (simp; omega) | omega) _) | (with_reducible refine grow_drewN ?_ _) | (with_reducible refine grow_drew ?_) | (with_reducible refine grow_step ?_ (by assumption)) | (with_reducible refine grow_base ?_ (by assumption))))⟩
    · have HE : Hid (certLast root cs = lastGo root cs) := Lib.hid (by simp [certLast, hl, hr])
      have HR := Lib.hid hr
      have HA := Lib.hid hA
      clear hA hbig
      go_enter Tryd.func110, Tryd.ntmps110
      go_wp2_with (go_at_call 43; refine (in_any _ _).mono ?_; rintro e w' ⟨rfl, rfl⟩)
      clear hr
      go_loopw [0, 21] (fun r i wr => ∃ (k : Nat) (q : Int), k ≤ cs.length ∧ i = .int .i64 k ∧ r = .int .i64 q ∧ Hid (okIn q = true) ∧ Hid (lastGo root cs = lastGo q (cs.drop k)) ∧ Below w.heap.size w wr) (fun _ i _ => cs.length - (intOf i).toNat)
      case atStart => exact ⟨0, root, Nat.zero_le _, rfl, rfl, HR, Lib.hid rfl, grow_refl _⟩
      case round =>
        obtain ⟨k, q, hk, rfl, rfl, HQ, HL, hb⟩ := hrel
        by_cases hlt : k < cs.length
        · obtain ⟨b, off, rfl, hblt, h1, h2, h3⟩ := (HA.out.below hb) k hlt
          have HD := Lib.hid (drop_cons cs (0, 0, 0) k hlt)
          obtain ⟨⟨x, p, a⟩, hxe⟩ : ∃ t, cs.getD k (0, 0, 0) = t := ⟨_, rfl⟩
          rw [hxe] at h1 h2 h3 HD
          clear hxe
          simp only at h1 h2 h3
          have HS : Hid (lastGo root cs = if okIn x then (if rightE q x p a = 0 then lastGo x (cs.drop (k + 1)) else (0, rightE q x p a)) else (0, 1)) := Lib.hid (by rw [HL.out, HD.out]; rfl)
          clear HL HD
          cases hx : okIn x
          · have HF : Hid (lastGo root cs = (0, 1)) := Lib.hid (by rw [HS.out, hx]; rfl)
            go_wp2_with (go_at_call 43; refine (in_any _ _).mono ?_; rintro e w' ⟨rfl, rfl⟩)
            go_ret2
            exact ⟨by rw [HE.out, HF.out]; rfl, (by repeat (first | (with_reducible exact grow_refl _) | (with_reducible assumption) | (with_reducible refine grow_alloc ?_ _) | (with_reducible refine grow_set ?_ (by first | exact Nat.le_refl _ | (simp; done) | (simp; omega) | omega) _) | (with_reducible refine grow_drewN ?_ _) | (with_reducible refine grow_drew ?_) | (with_reducible refine grow_step ?_ (by assumption)) | (with_reducible refine grow_base ?_ (by assumption))))⟩
          · by_cases hz : rightE q x p a = 0
            · have HF : Hid (lastGo root cs = lastGo x (cs.drop (k + 1))) := Lib.hid (by rw [HS.out, hx, hz]; rfl)
              have HX := Lib.hid hx
              clear HS
              go_wp2_with (first | (go_at_call 43; refine (in_any _ _).mono ?_; rintro e w' ⟨rfl, rfl⟩) | (go_at_call 72; refine (right_any _ _ _ _ _).mono ?_; rintro e w1 ⟨rfl, hb1⟩; have B := (Box.new _ _ _).below hb1; have cB := B.cell; have fB := B.frozen; have lB := B.lt))
              go_roundw
              case rel => exact ⟨k + 1, x, by omega, by go_num, rfl, HX, HF, (by repeat (first | (with_reducible exact grow_refl _) | (with_reducible assumption) | (with_reducible refine grow_alloc ?_ _) | (with_reducible refine grow_set ?_ (by first | exact Nat.le_refl _ | (simp; done) | (simp; omega) | omega) _) | (with_reducible refine grow_drewN ?_ _) | (with_reducible refine grow_drew ?_) | (with_reducible refine grow_step ?_ (by assumption)) | (with_reducible refine grow_base ?_ (by assumption))))⟩
              case measure => simp [intOf]; omega
            · have HF : Hid (lastGo root cs = (0, rightE q x p a)) := Lib.hid (by rw [HS.out, hx, if_neg hz]; rfl)
              have hz' : (rightE q x p a != 0) = true := by simpa using hz
              clear hz
              go_wp2_with (first | (go_at_call 43; refine (in_any _ _).mono ?_; rintro e w' ⟨rfl, rfl⟩) | (go_at_call 72; refine (right_any _ _ _ _ _).mono ?_; rintro e w1 ⟨rfl, hb1⟩; have B := (Box.new _ _ _).below hb1; have cB := B.cell; have fB := B.frozen; have lB := B.lt))
              go_ret2
              exact ⟨by rw [HE.out, HF.out]; rfl, (by repeat (first | (with_reducible exact grow_refl _) | (with_reducible assumption) | (with_reducible refine grow_alloc ?_ _) | (with_reducible refine grow_set ?_ (by first | exact Nat.le_refl _ | (simp; done) | (simp; omega) | omega) _) | (with_reducible refine grow_drewN ?_ _) | (with_reducible refine grow_drew ?_) | (with_reducible refine grow_step ?_ (by assumption)) | (with_reducible refine grow_base ?_ (by assumption))))⟩
        · have HF : Hid (lastGo root cs = (q, 0)) := Lib.hid (by rw [HL.out, List.drop_eq_nil_of_le (by omega)]; rfl)
          go_wp2
          go_ret2
          exact ⟨by rw [HE.out, HF.out]; rfl, (by repeat (first | (with_reducible exact grow_refl _) | (with_reducible assumption) | (with_reducible refine grow_alloc ?_ _) | (with_reducible refine grow_set ?_ (by first | exact Nat.le_refl _ | (simp; done) | (simp; omega) | omega) _) | (with_reducible refine grow_drewN ?_ _) | (with_reducible refine grow_drew ?_) | (with_reducible refine grow_step ?_ (by assumption)) | (with_reducible refine grow_base ?_ (by assumption))))⟩

end Go.Proofs.YtdedllfgeekogaaDoor

namespace Go.Proofs.YtdedllfgeekogaaDoor
open Go.RowKit

def cmE (x k q : Int) : Int := if okIn q then sgE x k q else 1
def cmV (x k q : Int) : Int × Int × Int := if cmE x k q = 0 then (q, sgP x k q, sgA x k q) else (0, 0, 0)

set_option maxHeartbeats 1000000 in
theorem certMake_any (x k q : Int) (w : World) :
    Calls Tryd.prog 16 #[.int .i64 x, .int .i64 k, .int .i64 q] w fun e w' => (∀ v, v = cmV x k q → e = .returned (.tuple #[.agg #[.int .i64 v.1, .int .i64 v.2.1, .int .i64 v.2.2], errV (cmE x k q)])) ∧ Below w.heap.size w w' := by
  have en := fun k w => err_neq k w
  have gn := fun o k w => err_guard_neq o k w
  have bz : Box (w.alloc (.cells #[.int .i64 0, .int .i64 0, .int .i64 0] 60)) w.heap.size 60 #[.int .i64 0, .int .i64 0, .int .i64 0] := Box.new _ _ _
  cases hq : okIn q
  · have HF : Hid (cmV x k q = (0, 0, 0) ∧ cmE x k q = 1) := Lib.hid (by
      have e : cmE x k q = 1 := by unfold cmE; rw [hq]; rfl
      refine ⟨?_, e⟩; unfold cmV; rw [e]; rfl)
    go_enter Tryd.func16, Tryd.ntmps16
    go_wp2_with (go_at_call 43; refine (in_any _ _).mono ?_; rintro e w' ⟨rfl, rfl⟩)
    refine bodyPost_ret (v := .tuple #[.agg #[.int .i64 0, .int .i64 0, .int .i64 0], errV 1]) (ret_cell_tmp Tryd.results16 rfl bz Tryd.underlying60 rfl (by kernel_rfl)) rfl ?_
    refine ⟨?_, (by repeat (first | (with_reducible exact grow_refl _) | (with_reducible assumption) | (with_reducible refine grow_alloc ?_ _) | (with_reducible refine grow_set ?_ (by first | exact Nat.le_refl _ | (simp; done) | (simp; omega) | omega) _) | (with_reducible refine grow_drewN ?_ _) | (with_reducible refine grow_drew ?_) | (with_reducible refine grow_step ?_ (by assumption)) | (with_reducible refine grow_base ?_ (by assumption))))⟩
    rintro v rfl
    rw [HF.out.1, HF.out.2]
  · obtain ⟨E, hE⟩ : ∃ E, sgE x k q = E := ⟨_, rfl⟩
    have he : cmE x k q = E := by unfold cmE; rw [hq, hE]; rfl
    by_cases h0 : E = 0
    · have HF : Hid (cmV x k q = (q, sgP x k q, sgA x k q) ∧ cmE x k q = 0) := Lib.hid ⟨by unfold cmV; rw [he, if_pos h0], he.trans h0⟩
      have HE := Lib.hid (hE.trans h0)
      clear he hE h0
      go_enter Tryd.func16, Tryd.ntmps16
      go_wp2_with (first | (go_at_call 43; refine (in_any _ _).mono ?_; rintro e w' ⟨rfl, rfl⟩) | (go_at_call 36; refine (sign_any _ _ _ _).mono ?_; rintro e w1 ⟨rfl, hb1⟩; rw [HE.out]; have bz1 := bz.below hb1; have cz := bz1.cell; have fz := bz1.frozen; have lz := bz1.lt))
      refine bodyPost_ret (v := .tuple #[.agg #[.int .i64 q, .int .i64 (sgP x k q), .int .i64 (sgA x k q)], errV 0]) (ret_cell_tmp Tryd.results16 rfl ((bz1.fill3 _ _ _).alloc_ _) Tryd.underlying60 rfl (by kernel_rfl)) rfl ?_
      refine ⟨?_, (by repeat (first | (with_reducible exact grow_refl _) | (with_reducible assumption) | (with_reducible refine grow_alloc ?_ _) | (with_reducible refine grow_set ?_ (by first | exact Nat.le_refl _ | (simp; done) | (simp; omega) | omega) _) | (with_reducible refine grow_drewN ?_ _) | (with_reducible refine grow_drew ?_) | (with_reducible refine grow_step ?_ (by assumption)) | (with_reducible refine grow_base ?_ (by assumption))))⟩
      rintro v rfl
      rw [HF.out.1, HF.out.2]
    · have HF : Hid (cmV x k q = (0, 0, 0) ∧ cmE x k q = E) := Lib.hid ⟨by unfold cmV; rw [he, if_neg h0], he⟩
      have HE := Lib.hid hE
      have t : (E != 0) = true := by simpa using h0
      clear he hE h0
      go_enter Tryd.func16, Tryd.ntmps16
      go_wp2_with (first | (go_at_call 43; refine (in_any _ _).mono ?_; rintro e w' ⟨rfl, rfl⟩) | (go_at_call 36; refine (sign_any _ _ _ _).mono ?_; rintro e w1 ⟨rfl, hb1⟩; rw [HE.out]; have bz1 := bz.below hb1; have cz := bz1.cell; have fz := bz1.frozen; have lz := bz1.lt))
      refine bodyPost_ret (v := .tuple #[.agg #[.int .i64 0, .int .i64 0, .int .i64 0], errV E]) (ret_cell_tmp Tryd.results16 rfl ((bz1.fill3 _ _ _).alloc_ _) Tryd.underlying60 rfl (by kernel_rfl)) rfl ?_
      refine ⟨?_, (by repeat (first | (with_reducible exact grow_refl _) | (with_reducible assumption) | (with_reducible refine grow_alloc ?_ _) | (with_reducible refine grow_set ?_ (by first | exact Nat.le_refl _ | (simp; done) | (simp; omega) | omega) _) | (with_reducible refine grow_drewN ?_ _) | (with_reducible refine grow_drew ?_) | (with_reducible refine grow_step ?_ (by assumption)) | (with_reducible refine grow_base ?_ (by assumption))))⟩
      rintro v rfl
      rw [HF.out.1, HF.out.2]

end Go.Proofs.YtdedllfgeekogaaDoor
