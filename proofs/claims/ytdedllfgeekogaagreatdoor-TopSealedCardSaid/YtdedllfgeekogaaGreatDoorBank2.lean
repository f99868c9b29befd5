/- The walks of package bank. -/
import Derived.Test.YtdedllfgeekogaaGreatDoorRows
import Derived.Test.YtdedllfgeekogaaGreatDoorNum
import Derived.Test.YtdedllfgeekogaaGreatDoorBase
import Derived.Test.YtdedllfgeekogaaGreatDoorMeas
import Derived.Test.YtdedllfgeekogaaGreatDoorApp
import Derived.Test.YtdedllfgeekogaaGreatDoorBank
import Derived.WalkKit
import Derived.Lib.Hide
import Derived.Deep.RegionHeld3
import Derived.Deep.QuietTactic
import Derived.BigQuiet
namespace Go.Proofs.YtdedllfgeekogaaGreatDoor
open Go.RowKit

set_option maxHeartbeats 400000 in
theorem equal_any (A1 A2 : Option Addr) (c1 c2 : Nat) (xs ys : List Int) (w : World) (h1 : IntsAt w A1 xs) (h2 : IntsAt w A2 ys) (l1 : xs.length ≤ 1000000) (_l2 : ys.length ≤ 1000000) :
    Calls Tryz.prog 65 #[.slice A1 xs.length c1, .slice A2 ys.length c2] w fun e w' => e = .returned (.bool (xs == ys)) ∧ Below w.heap.size w w' := by
  by_cases hl : xs.length = ys.length
  · have HL := Lib.hid hl
    have H1 := Lib.hid h1
    have H2 := Lib.hid h2
    have t : ((xs.length : Int) != (ys.length : Int)) = false := by simp [hl]
    clear hl h1 h2
    go_enter Tryz.func65, Tryz.ntmps65
    go_wp2
    go_loopw [5, 13] (fun _ i wr => ∃ k : Nat, k ≤ xs.length ∧ i = .int .i64 k ∧ Hid (xs.take k = ys.take k) ∧ Below w.heap.size w wr) (fun _ i _ => xs.length - (intOf i).toNat)
    case atStart => exact ⟨0, Nat.zero_le _, rfl, Lib.hid rfl, (by repeat (first | (with_reducible exact grow_refl _) | (with_reducible assumption) | (with_reducible refine grow_alloc ?_ _) | (with_reducible refine grow_set ?_ (by first | exact Nat.le_refl _ | (simp; done) | (simp; omega) | omega) _) | (with_reducible refine grow_drewN ?_ _) | (with_reducible refine grow_drew ?_) | (with_reducible refine grow_step ?_ (by assumption)) | (with_reducible refine grow_base ?_ (by assumption))))⟩
    case round =>
      obtain ⟨k, hk, rfl, HP, hb⟩ := hrel
      by_cases hlt : k < xs.length
      · have hlt2 : k < ys.length := by rw [← HL.out]; exact hlt
        obtain ⟨b, off, rfl, _, hc⟩ := (H1.out.below hb) k hlt
        obtain ⟨b', off', rfl, _, hc'⟩ := (H2.out.below hb) k hlt2
        have HS := Lib.hid (take_snoc xs 0 k hlt)
        have HT := Lib.hid (take_snoc ys 0 k hlt2)
        obtain ⟨x, hxe⟩ : ∃ x, xs.getD k 0 = x := ⟨_, rfl⟩
        obtain ⟨y, hye⟩ : ∃ y, ys.getD k 0 = y := ⟨_, rfl⟩
        rw [hxe] at hc HS
        rw [hye] at hc' HT
        have g1 : (k : Int) < (xs.length : Int) := by omega
        have g2 : (k : Int) < (ys.length : Int) := by omega
        have g3 : (0 : Int) ≤ (k : Int) := by omega
        have HX := Lib.hid hxe
        have HY := Lib.hid hye
        clear hxe hye t
        by_cases he : x = y
        · have HN : Hid (xs.take (k + 1) = ys.take (k + 1)) := Lib.hid (by rw [HS.out, HT.out, HP.out, he])
          have t2 : (x != y) = false := by simp [he]
          clear he
          go_wp2
          go_quiet (fail)
          go_wp2
          go_roundw
          case rel => exact ⟨k + 1, by omega, by go_num, HN, (by repeat (first | (with_reducible exact grow_refl _) | (with_reducible assumption) | (with_reducible refine grow_alloc ?_ _) | (with_reducible refine grow_set ?_ (by first | exact Nat.le_refl _ | (simp; done) | (simp; omega) | omega) _) | (with_reducible refine grow_drewN ?_ _) | (with_reducible refine grow_drew ?_) | (with_reducible refine grow_step ?_ (by assumption)) | (with_reducible refine grow_base ?_ (by assumption))))⟩
          case measure => simp [intOf]; omega
        · have t2 : (x != y) = true := by simp [he]
          have HN : Hid ((xs == ys) = false) := Lib.hid (by
            rw [beq_eq_false_iff_ne]
            intro e
            apply he
            rw [← HX.out, ← HY.out, e])
          clear he
          go_wp2
          go_quiet (fail)
          go_wp2
          go_ret
          exact ⟨bool_eq (by rw [HN.out]), (by repeat (first | (with_reducible exact grow_refl _) | (with_reducible assumption) | (with_reducible refine grow_alloc ?_ _) | (with_reducible refine grow_set ?_ (by first | exact Nat.le_refl _ | (simp; done) | (simp; omega) | omega) _) | (with_reducible refine grow_drewN ?_ _) | (with_reducible refine grow_drew ?_) | (with_reducible refine grow_step ?_ (by assumption)) | (with_reducible refine grow_base ?_ (by assumption))))⟩
      · have HN : Hid ((xs == ys) = true) := Lib.hid (by
          have := HP.out
          rw [List.take_of_length_le (by omega), List.take_of_length_le (by have := HL.out; omega)] at this
          rw [this]; exact beq_self_eq_true _)
        go_wp2
        go_ret
        exact ⟨bool_eq (by rw [HN.out]), (by repeat (first | (with_reducible exact grow_refl _) | (with_reducible assumption) | (with_reducible refine grow_alloc ?_ _) | (with_reducible refine grow_set ?_ (by first | exact Nat.le_refl _ | (simp; done) | (simp; omega) | omega) _) | (with_reducible refine grow_drewN ?_ _) | (with_reducible refine grow_drew ?_) | (with_reducible refine grow_step ?_ (by assumption)) | (with_reducible refine grow_base ?_ (by assumption))))⟩
  · have t : ((xs.length : Int) != (ys.length : Int)) = true := by simp; omega
    have HN : Hid ((xs == ys) = false) := Lib.hid (by
      rw [beq_eq_false_iff_ne]
      intro e
      exact hl (by rw [e]))
    clear hl
    go_enter Tryz.func65, Tryz.ntmps65
    go_wp2
    go_ret
    exact ⟨bool_eq (by rw [HN.out]), (by repeat (first | (with_reducible exact grow_refl _) | (with_reducible assumption) | (with_reducible refine grow_alloc ?_ _) | (with_reducible refine grow_set ?_ (by first | exact Nat.le_refl _ | (simp; done) | (simp; omega) | omega) _) | (with_reducible refine grow_drewN ?_ _) | (with_reducible refine grow_drew ?_) | (with_reducible refine grow_step ?_ (by assumption)) | (with_reducible refine grow_base ?_ (by assumption))))⟩

set_option maxHeartbeats 1000000 in
theorem same_any (x0 x1 x2 x3 x4 x5 x6 x7 : Int) (y0 y1 y2 y3 y4 y5 y6 y7 : Int) (m : Int) (w : World) :
    Calls Tryz.prog 18 #[.agg #[.int .i64 x0, .int .i64 x1, .int .i64 x2, .int .i64 x3, .int .i64 x4, .int .i64 x5, .int .i64 x6, .int .i64 x7], .agg #[.int .i64 y0, .int .i64 y1, .int .i64 y2, .int .i64 y3, .int .i64 y4, .int .i64 y5, .int .i64 y6, .int .i64 y7], .int .i64 m] w fun e w' => e = .returned (.tuple #[.bool (sameB [x0, x1, x2, x3, x4, x5, x6, x7] [y0, y1, y2, y3, y4, y5, y6, y7] m), errV (sameE [x0, x1, x2, x3, x4, x5, x6, x7] [y0, y1, y2, y3, y4, y5, y6, y7] m)]) ∧ Below w.heap.size w w' := by
  have en := fun k w => err_neq k w
  have gn := fun o k w => err_guard_neq o k w
  have HB : Hid (∀ b, b = sameB [x0, x1, x2, x3, x4, x5, x6, x7] [y0, y1, y2, y3, y4, y5, y6, y7] m → b = sameB [x0, x1, x2, x3, x4, x5, x6, x7] [y0, y1, y2, y3, y4, y5, y6, y7] m) := Lib.hid (fun _ h => h)
  obtain ⟨EX, hEX⟩ : ∃ e, bankE [x0, x1, x2, x3, x4, x5, x6, x7] = e := ⟨_, rfl⟩
  obtain ⟨EY, hEY⟩ : ∃ e, bankE [y0, y1, y2, y3, y4, y5, y6, y7] = e := ⟨_, rfl⟩
  have HX := Lib.hid hEX
  have HY := Lib.hid hEY
  obtain ⟨R, hR⟩ : ∃ r, sameB [x0, x1, x2, x3, x4, x5, x6, x7] [y0, y1, y2, y3, y4, y5, y6, y7] m = r := ⟨_, rfl⟩
  obtain ⟨E, hE⟩ : ∃ e, sameE [x0, x1, x2, x3, x4, x5, x6, x7] [y0, y1, y2, y3, y4, y5, y6, y7] m = e := ⟨_, rfl⟩
  rw [hR, hE]
  have HR := Lib.hid hR
  have HE := Lib.hid hE
  clear hEX hEY hR hE
  go_enter Tryz.func18, Tryz.ntmps18
  go_wp2
  go_loopw [15] (fun i wr => ∃ k : Nat, k ≤ 2 ∧ i = .int .i64 k ∧ Below w.heap.size w wr ∧ Box wr w.heap.size 44 #[.int .i64 x0, .int .i64 x1, .int .i64 x2, .int .i64 x3, .int .i64 x4, .int .i64 x5, .int .i64 x6, .int .i64 x7] ∧ Box wr (w.heap.size + 1) 44 #[.int .i64 y0, .int .i64 y1, .int .i64 y2, .int .i64 y3, .int .i64 y4, .int .i64 y5, .int .i64 y6, .int .i64 y7] ∧ Box wr (w.heap.size + 2) 44 #[.int .i64 x0, .int .i64 x1, .int .i64 x2, .int .i64 x3, .int .i64 x4, .int .i64 x5, .int .i64 x6, .int .i64 x7, .int .i64 y0, .int .i64 y1, .int .i64 y2, .int .i64 y3, .int .i64 y4, .int .i64 y5, .int .i64 y6, .int .i64 y7] ∧ Hid ((1 ≤ k → EX = 0) ∧ (2 ≤ k → EY = 0))) (fun i _ => 2 - (intOf i).toNat)
  case atStart => exact ⟨0, by omega, rfl, (by repeat (first | (with_reducible exact grow_refl _) | (with_reducible assumption) | (with_reducible refine grow_alloc ?_ _) | (with_reducible refine grow_set ?_ (by first | exact Nat.le_refl _ | (simp; done) | (simp; omega) | omega) _) | (with_reducible refine grow_drewN ?_ _) | (with_reducible refine grow_drew ?_) | (with_reducible refine grow_step ?_ (by assumption)) | (with_reducible refine grow_base ?_ (by assumption)))), ((Box.new _ _ _).below (grow_alloc (grow_alloc (grow_refl _) _) _)), (by have := (Box.new (w.alloc (.cells #[.int .i64 x0, .int .i64 x1, .int .i64 x2, .int .i64 x3, .int .i64 x4, .int .i64 x5, .int .i64 x6, .int .i64 x7] 44)) 44 #[.int .i64 y0, .int .i64 y1, .int .i64 y2, .int .i64 y3, .int .i64 y4, .int .i64 y5, .int .i64 y6, .int .i64 y7]).below (grow_alloc (grow_refl _) (.cells #[.int .i64 x0, .int .i64 x1, .int .i64 x2, .int .i64 x3, .int .i64 x4, .int .i64 x5, .int .i64 x6, .int .i64 x7, .int .i64 y0, .int .i64 y1, .int .i64 y2, .int .i64 y3, .int .i64 y4, .int .i64 y5, .int .i64 y6, .int .i64 y7] 44)); simpa using this), (by have := Box.new ((w.alloc (.cells #[.int .i64 x0, .int .i64 x1, .int .i64 x2, .int .i64 x3, .int .i64 x4, .int .i64 x5, .int .i64 x6, .int .i64 x7] 44)).alloc (.cells #[.int .i64 y0, .int .i64 y1, .int .i64 y2, .int .i64 y3, .int .i64 y4, .int .i64 y5, .int .i64 y6, .int .i64 y7] 44)) 44 #[.int .i64 x0, .int .i64 x1, .int .i64 x2, .int .i64 x3, .int .i64 x4, .int .i64 x5, .int .i64 x6, .int .i64 x7, .int .i64 y0, .int .i64 y1, .int .i64 y2, .int .i64 y3, .int .i64 y4, .int .i64 y5, .int .i64 y6, .int .i64 y7]; simpa using this), Lib.hid ⟨fun h => absurd h (by omega), fun h => absurd h (by omega)⟩⟩
  case round =>
    obtain ⟨k, hk, rfl, hb, b1, b2, b3, HK⟩ := hrel
    have hcase : k = 0 ∨ k = 1 ∨ k = 2 := by omega
    clear hk
    rcases hcase with rfl | rfl | rfl
    · have c3 := b3.cell; have l3 := b3.lt
      by_cases hz : EX = 0
      · have HZ := Lib.hid hz
        have t : (EX != 0) = false := by simp [hz]
        clear hz
        go_wp2_with (go_at_call 63; refine (bankCheck_any x0 x1 x2 x3 x4 x5 x6 x7 _).mono ?_; rintro e w1 ⟨rfl, hb1⟩; rw [HX.out]; have q1 := (b1.below (grow_alloc (grow_refl _) _)).below hb1; have q2 := (b2.below (grow_alloc (grow_refl _) _)).below hb1; have q3 := (b3.below (grow_alloc (grow_refl _) _)).below hb1)
        go_roundw
        case rel => exact ⟨1, by omega, by go_num, (by repeat (first | (with_reducible exact grow_refl _) | (with_reducible assumption) | (with_reducible refine grow_alloc ?_ _) | (with_reducible refine grow_set ?_ (by first | exact Nat.le_refl _ | (simp; done) | (simp; omega) | omega) _) | (with_reducible refine grow_drewN ?_ _) | (with_reducible refine grow_drew ?_) | (with_reducible refine grow_step ?_ (by assumption)) | (with_reducible refine grow_base ?_ (by assumption)))), q1, q2, q3, Lib.hid ⟨fun _ => HZ.out, fun h => absurd h (by omega)⟩⟩
        case measure => simp [intOf]
      · have t : (EX != 0) = true := by simp [hz]
        have HF : Hid (R = false ∧ E = 1 ∧ EX = 1) := Lib.hid (by
          have := HX.out
          unfold bankE at this
          cases h : ([x0, x1, x2, x3, x4, x5, x6, x7]).all okM
          · rw [h] at this
            rw [← HR.out, ← HE.out]
            unfold sameB sameE
            rw [h]
            exact ⟨rfl, rfl, this.symm⟩
          · rw [h] at this
            exact absurd this.symm hz)
        clear hz
        go_wp2_with (go_at_call 63; refine (bankCheck_any x0 x1 x2 x3 x4 x5 x6 x7 _).mono ?_; rintro e w1 ⟨rfl, hb1⟩; rw [HX.out])
        go_ret2
        exact ⟨by rw [HF.out.1, HF.out.2.1, HF.out.2.2]; rfl, (by repeat (first | (with_reducible exact grow_refl _) | (with_reducible assumption) | (with_reducible refine grow_alloc ?_ _) | (with_reducible refine grow_set ?_ (by first | exact Nat.le_refl _ | (simp; done) | (simp; omega) | omega) _) | (with_reducible refine grow_drewN ?_ _) | (with_reducible refine grow_drew ?_) | (with_reducible refine grow_step ?_ (by assumption)) | (with_reducible refine grow_base ?_ (by assumption))))⟩
    · have c3 := b3.cell; have l3 := b3.lt
      have hex : EX = 0 := HK.out.1 (by omega)
      have HX0 := Lib.hid hex
      clear hex
      by_cases hz : EY = 0
      · have HZ := Lib.hid hz
        have t : (EY != 0) = false := by simp [hz]
        clear hz
        go_wp2_with (go_at_call 63; refine (bankCheck_any y0 y1 y2 y3 y4 y5 y6 y7 _).mono ?_; rintro e w1 ⟨rfl, hb1⟩; rw [HY.out]; have q1 := (b1.below (grow_alloc (grow_refl _) _)).below hb1; have q2 := (b2.below (grow_alloc (grow_refl _) _)).below hb1; have q3 := (b3.below (grow_alloc (grow_refl _) _)).below hb1)
        go_roundw
        case rel => exact ⟨2, by omega, by go_num, (by repeat (first | (with_reducible exact grow_refl _) | (with_reducible assumption) | (with_reducible refine grow_alloc ?_ _) | (with_reducible refine grow_set ?_ (by first | exact Nat.le_refl _ | (simp; done) | (simp; omega) | omega) _) | (with_reducible refine grow_drewN ?_ _) | (with_reducible refine grow_drew ?_) | (with_reducible refine grow_step ?_ (by assumption)) | (with_reducible refine grow_base ?_ (by assumption)))), q1, q2, q3, Lib.hid ⟨fun _ => HX0.out, fun _ => HZ.out⟩⟩
        case measure => simp [intOf]
      · have t : (EY != 0) = true := by simp [hz]
        have HF : Hid (R = false ∧ E = 1 ∧ EY = 1) := Lib.hid (by
          have := HY.out
          unfold bankE at this
          cases h : ([y0, y1, y2, y3, y4, y5, y6, y7]).all okM
          · rw [h] at this
            rw [← HR.out, ← HE.out]
            unfold sameB sameE
            rw [h]
            exact ⟨by cases ([x0, x1, x2, x3, x4, x5, x6, x7]).all okM <;> rfl, by cases ([x0, x1, x2, x3, x4, x5, x6, x7]).all okM <;> rfl, this.symm⟩
          · rw [h] at this
            exact absurd this.symm hz)
        clear hz
        go_wp2_with (go_at_call 63; refine (bankCheck_any y0 y1 y2 y3 y4 y5 y6 y7 _).mono ?_; rintro e w1 ⟨rfl, hb1⟩; rw [HY.out])
        go_ret2
        exact ⟨by rw [HF.out.1, HF.out.2.1, HF.out.2.2]; rfl, (by repeat (first | (with_reducible exact grow_refl _) | (with_reducible assumption) | (with_reducible refine grow_alloc ?_ _) | (with_reducible refine grow_set ?_ (by first | exact Nat.le_refl _ | (simp; done) | (simp; omega) | omega) _) | (with_reducible refine grow_drewN ?_ _) | (with_reducible refine grow_drew ?_) | (with_reducible refine grow_step ?_ (by assumption)) | (with_reducible refine grow_base ?_ (by assumption))))⟩
    · have hox : ([x0, x1, x2, x3, x4, x5, x6, x7]).all okM = true := by
        have h1 := HX.out
        rw [HK.out.1 (by omega)] at h1
        unfold bankE at h1
        cases h : ([x0, x1, x2, x3, x4, x5, x6, x7]).all okM
        · rw [h] at h1; exact absurd h1 (by decide)
        · rfl
      have hoy : ([y0, y1, y2, y3, y4, y5, y6, y7]).all okM = true := by
        have h1 := HY.out
        rw [HK.out.2 (by omega)] at h1
        unfold bankE at h1
        cases h : ([y0, y1, y2, y3, y4, y5, y6, y7]).all okM
        · rw [h] at h1; exact absurd h1 (by decide)
        · rfl
      have HOX := Lib.hid hox
      have HOY := Lib.hid hoy
      clear hox hoy
      cases hm : okMask m
      · have HF : Hid (R = false ∧ E = 1) := Lib.hid (by
          rw [← HR.out, ← HE.out]
          unfold sameB sameE
          rw [HOX.out, HOY.out, hm]
          exact ⟨rfl, rfl⟩)
        go_wp2_with (go_at_call 64; refine (mask_any _ _).mono ?_; rintro e w' ⟨rfl, rfl⟩)
        go_ret2
        exact ⟨by rw [HF.out.1, HF.out.2]; rfl, (by repeat (first | (with_reducible exact grow_refl _) | (with_reducible assumption) | (with_reducible refine grow_alloc ?_ _) | (with_reducible refine grow_set ?_ (by first | exact Nat.le_refl _ | (simp; done) | (simp; omega) | omega) _) | (with_reducible refine grow_drewN ?_ _) | (with_reducible refine grow_drew ?_) | (with_reducible refine grow_step ?_ (by assumption)) | (with_reducible refine grow_base ?_ (by assumption))))⟩
      · have HF : Hid (R = (toldM [x0, x1, x2, x3, x4, x5, x6, x7] m == toldM [y0, y1, y2, y3, y4, y5, y6, y7] m) ∧ E = 0) := Lib.hid (by
          rw [← HR.out, ← HE.out]
          unfold sameB sameE
          rw [HOX.out, HOY.out, hm]
          exact ⟨rfl, rfl⟩)
        obtain ⟨m1, m2⟩ := okMask_yes hm
        have lx : Hid ((toldM [x0, x1, x2, x3, x4, x5, x6, x7] m).length ≤ 1000000) := Lib.hid (Nat.le_trans (toldK_len _ _ _) (by decide))
        have ly : Hid ((toldM [y0, y1, y2, y3, y4, y5, y6, y7] m).length ≤ 1000000) := Lib.hid (Nat.le_trans (toldK_len _ _ _) (by decide))
        have c1 := b1.cell; have l1 := b1.lt
        have c2 := b2.cell; have l2 := b2.lt
        go_wp2_with (go_at_call 64; refine (mask_any _ _).mono ?_; rintro e w' ⟨rfl, rfl⟩)
        have tok1 : True := trivial
        have d1 : Box wr.drew w.heap.size _ _ := b1
        have d2 : Box wr.drew (w.heap.size + 1) _ _ := b2
        have d3 : Below w.heap.size w wr.drew := grow_drew hb
        go_region_held3 (fun w' => (∀ i, w'.cell? ⟨w.heap.size, i, none⟩ = (#[.int .i64 x0, .int .i64 x1, .int .i64 x2, .int .i64 x3, .int .i64 x4, .int .i64 x5, .int .i64 x6, .int .i64 x7] : Array Value)[i]?) ∧ (∀ i, w'.cell? ⟨w.heap.size + 1, i, none⟩ = (#[.int .i64 y0, .int .i64 y1, .int .i64 y2, .int .i64 y3, .int .i64 y4, .int .i64 y5, .int .i64 y6, .int .i64 y7] : Array Value)[i]?) ∧ Box w' w.heap.size 44 #[.int .i64 x0, .int .i64 x1, .int .i64 x2, .int .i64 x3, .int .i64 x4, .int .i64 x5, .int .i64 x6, .int .i64 x7] ∧ Box w' (w.heap.size + 1) 44 #[.int .i64 y0, .int .i64 y1, .int .i64 y2, .int .i64 y3, .int .i64 y4, .int .i64 y5, .int .i64 y6, .int .i64 y7] ∧ Below w.heap.size w w')
          (first
            | exact ⟨E1.cell, E2.cell, E1, E2, E3⟩
            | exact ⟨d1.cell, d2.cell, d1, d2, d3⟩
            | (go_keep; done))
          (first
            | (go_at_call 66; have _t := tok1; clear tok1; go_split_ands; have p1 : Box _ w.heap.size 44 #[.int .i64 x0, .int .i64 x1, .int .i64 x2, .int .i64 x3, .int .i64 x4, .int .i64 x5, .int .i64 x6, .int .i64 x7] := (by assumption); have p2 : Box _ (w.heap.size + 1) 44 #[.int .i64 y0, .int .i64 y1, .int .i64 y2, .int .i64 y3, .int .i64 y4, .int .i64 y5, .int .i64 y6, .int .i64 y7] := (by assumption); have p3 : Below w.heap.size w _ := (by assumption); refine (told_any x0 x1 x2 x3 x4 x5 x6 x7 m _ m1 m2).mono ?_; rintro e w1 ⟨A1, c1, zs1, rfl, hz1, hi1, hb1⟩; have HZ1 := Lib.hid hz1; clear hz1; have E1 := p1.below hb1; have E2 := p2.below hb1; have E3 := grow_step p3 hb1; clear p1 p2 p3)
            | (go_at_call 66; go_split_ands; have p1 : Box _ w.heap.size 44 #[.int .i64 x0, .int .i64 x1, .int .i64 x2, .int .i64 x3, .int .i64 x4, .int .i64 x5, .int .i64 x6, .int .i64 x7] := (by assumption); have p2 : Box _ (w.heap.size + 1) 44 #[.int .i64 y0, .int .i64 y1, .int .i64 y2, .int .i64 y3, .int .i64 y4, .int .i64 y5, .int .i64 y6, .int .i64 y7] := (by assumption); have p3 : Below w.heap.size w _ := (by assumption); refine (told_any y0 y1 y2 y3 y4 y5 y6 y7 m _ m1 m2).mono ?_; rintro e w1 ⟨A2, c2, zs2, rfl, hz2, hi2, hb1⟩; have HZ2 := Lib.hid hz2; clear hz2; have hi3 := hi1.below hb1; have E1 := p1.below hb1; have E2 := p2.below hb1; have E3 := grow_step p3 hb1; clear p1 p2 p3)
            | (go_at_call 65; go_split_ands; have p1 : Box _ w.heap.size 44 #[.int .i64 x0, .int .i64 x1, .int .i64 x2, .int .i64 x3, .int .i64 x4, .int .i64 x5, .int .i64 x6, .int .i64 x7] := (by assumption); have p2 : Box _ (w.heap.size + 1) 44 #[.int .i64 y0, .int .i64 y1, .int .i64 y2, .int .i64 y3, .int .i64 y4, .int .i64 y5, .int .i64 y6, .int .i64 y7] := (by assumption); have p3 : Below w.heap.size w _ := (by assumption); refine (equal_any A1 A2 _ _ zs1 zs2 _ hi3 hi2 (by rw [HZ1.out]; exact lx.out) (by rw [HZ2.out]; exact ly.out)).mono ?_; rintro e w1 ⟨rfl, hb1⟩; have E1 := p1.below hb1; have E2 := p2.below hb1; have E3 := grow_step p3 hb1; clear p1 p2 p3))
        go_wp2
        go_ret2
        exact ⟨by rw [HF.out.1, HF.out.2, ← HZ1.out, ← HZ2.out]; rfl, by assumption⟩

end Go.Proofs.YtdedllfgeekogaaGreatDoor
