/- The reference's slots. -/
import Derived.Test.YtdedllfgeekogaaGreatDoorRows
import Derived.Test.YtdedllfgeekogaaGreatDoorNum
import Derived.Test.YtdedllfgeekogaaGreatDoorBase
import Derived.Test.YtdedllfgeekogaaGreatDoorMeas
import Derived.Test.YtdedllfgeekogaaGreatDoorApp
import Derived.Test.YtdedllfgeekogaaGreatDoorFoot
import Derived.Test.YtdedllfgeekogaaGreatDoorImg
import Derived.Test.YtdedllfgeekogaaGreatDoorRefI
import Derived.Test.YtdedllfgeekogaaGreatDoorSlot
import Derived.WalkKit
import Derived.WalkSpells
import Derived.WalkLawsBesides
import Derived.Lib.Hide
import Derived.Deep.QuietTactic
import Derived.BigQuiet
import Derived.RegionTactic
import Derived.BigRegion
namespace Go.Proofs.YtdedllfgeekogaaGreatDoor
open Go.RowKit
set_option maxRecDepth 100000
set_option linter.unusedSimpArgs false

set_option maxHeartbeats 2000000 in
theorem rsafe_any (g : Nat) (s : Slts) (w : World) (hB : Box w g 122 s.cs) :
    Calls Tryz.prog 38 #[.pointer (some ⟨g, 0, none⟩)] w fun e w' => e = .returned (.int .i64 (rI s.safe)) ∧ Below w.heap.size w w' := by
  obtain ⟨⟨n0, v0, c0, p0, a0, f0, t0, g0⟩, ⟨n1, v1, c1, p1, a1, f1, t1, g1⟩, r⟩ := s
  have cB := hB.cell
  have lB := hB.lt
  clear hB
  cases r
  · cases g0
    all_goals
      simp only [Slts.cs, rI] at cB
      go_enter Tryz.func38, Tryz.ntmps38
      go_wp2_with fail
      go_quiet (fail)
      go_wp2_with fail
      go_ret
      exact ⟨rfl, (by repeat (first | (with_reducible exact grow_refl _) | (with_reducible assumption) | (with_reducible refine grow_alloc ?_ _) | (with_reducible refine grow_set ?_ (by first | exact Nat.le_refl _ | (simp; done) | (simp; omega) | omega) _) | (with_reducible refine grow_drewN ?_ _) | (with_reducible refine grow_drew ?_) | (with_reducible refine grow_step ?_ (by assumption)) | (with_reducible refine grow_base ?_ (by assumption))))⟩
  · cases g1
    all_goals
      simp only [Slts.cs, rI] at cB
      go_enter Tryz.func38, Tryz.ntmps38
      go_wp2_with fail
      go_quiet (fail)
      go_wp2_with fail
      go_ret
      exact ⟨rfl, (by repeat (first | (with_reducible exact grow_refl _) | (with_reducible assumption) | (with_reducible refine grow_alloc ?_ _) | (with_reducible refine grow_set ?_ (by first | exact Nat.le_refl _ | (simp; done) | (simp; omega) | omega) _) | (with_reducible refine grow_drewN ?_ _) | (with_reducible refine grow_drew ?_) | (with_reducible refine grow_step ?_ (by assumption)) | (with_reducible refine grow_base ?_ (by assumption))))⟩

theorem rsafe_at (g : Nat) (s : Slts) (b : Bool) (w : World) (hB : Box w g 122 s.cs) (hb : s.safe = b) :
    Calls Tryz.prog 38 #[.pointer (some ⟨g, 0, none⟩)] w fun e w' => e = .returned (.int .i64 (rI b)) ∧ Below w.heap.size w w' := hb ▸ rsafe_any g s w hB

set_option maxHeartbeats 8000000 in
theorem rpick_any (g : Nat) (s : Slts) (w : World) (hB : Box w g 122 s.cs) :
    Calls Tryz.prog 37 #[.pointer (some ⟨g, 0, none⟩)] w fun e w' => e = .returned (.int .i64 (rI s.pick)) ∧ Below w.heap.size w w' := by
  obtain ⟨⟨n0, v0, c0, p0, a0, f0, t0, g0⟩, ⟨n1, v1, c1, p1, a1, f1, t1, g1⟩, r⟩ := s
  have HB := Lib.hid hB
  clear hB
  obtain ⟨P, hP⟩ : ∃ P, Slts.pick ⟨⟨n0, v0, c0, p0, a0, f0, t0, g0⟩, ⟨n1, v1, c1, p1, a1, f1, t1, g1⟩, r⟩ = P := ⟨_, rfl⟩
  have HP := Lib.hid hP
  rw [hP]
  clear hP
  cases r
  · cases g0
    · cases f0
      · have hP : P = true := by rw [← HP.out]; simp [Slts.pick, Slts.safe, Slts.at_, Slt.trial]
        subst hP
        clear HP
        have cB := HB.out.cell
        have lB := HB.out.lt
        simp only [Slts.cs, rI] at cB
        go_enter Tryz.func37, Tryz.ntmps37
        go_wp2_with fail
        refine (rsafe_at g _ true _ HB.out rfl).mono ?_
        rintro e w1 ⟨rfl, hb1⟩
        have B1 := HB.out.below hb1
        have c1 := B1.cell
        have l1 := B1.lt
        simp only [Slts.cs, rI] at c1
        clear B1 cB lB
        simp only [rI]
        go_wp2_with fail
        go_ret
        exact ⟨rfl, (by repeat (first | (with_reducible exact grow_refl _) | (with_reducible assumption) | (with_reducible refine grow_alloc ?_ _) | (with_reducible refine grow_set ?_ (by first | exact Nat.le_refl _ | (simp; done) | (simp; omega) | omega) _) | (with_reducible refine grow_drewN ?_ _) | (with_reducible refine grow_drew ?_) | (with_reducible refine grow_step ?_ (by assumption)) | (with_reducible refine grow_base ?_ (by assumption))))⟩
      · by_cases ht : 0 < t0
        · have hP : P = false := by rw [← HP.out]; simp [Slts.pick, Slts.safe, Slts.at_, Slt.trial, ht]
          subst hP
          clear HP
          have cB := HB.out.cell
          have lB := HB.out.lt
          simp only [Slts.cs, rI] at cB
          go_enter Tryz.func37, Tryz.ntmps37
          go_wp2_with fail
          refine (rsafe_at g _ true _ HB.out rfl).mono ?_
          rintro e w1 ⟨rfl, hb1⟩
          have B1 := HB.out.below hb1
          have c1 := B1.cell
          have l1 := B1.lt
          simp only [Slts.cs, rI] at c1
          clear B1 cB lB
          simp only [rI]
          go_wp2_with fail
          go_ret
          exact ⟨rfl, (by repeat (first | (with_reducible exact grow_refl _) | (with_reducible assumption) | (with_reducible refine grow_alloc ?_ _) | (with_reducible refine grow_set ?_ (by first | exact Nat.le_refl _ | (simp; done) | (simp; omega) | omega) _) | (with_reducible refine grow_drewN ?_ _) | (with_reducible refine grow_drew ?_) | (with_reducible refine grow_step ?_ (by assumption)) | (with_reducible refine grow_base ?_ (by assumption))))⟩
        · have hP : P = true := by rw [← HP.out]; simp [Slts.pick, Slts.safe, Slts.at_, Slt.trial, ht]
          subst hP
          clear HP
          have cB := HB.out.cell
          have lB := HB.out.lt
          simp only [Slts.cs, rI] at cB
          go_enter Tryz.func37, Tryz.ntmps37
          go_wp2_with fail
          refine (rsafe_at g _ true _ HB.out rfl).mono ?_
          rintro e w1 ⟨rfl, hb1⟩
          have B1 := HB.out.below hb1
          have c1 := B1.cell
          have l1 := B1.lt
          simp only [Slts.cs, rI] at c1
          clear B1 cB lB
          simp only [rI]
          go_wp2_with fail
          go_ret
          exact ⟨rfl, (by repeat (first | (with_reducible exact grow_refl _) | (with_reducible assumption) | (with_reducible refine grow_alloc ?_ _) | (with_reducible refine grow_set ?_ (by first | exact Nat.le_refl _ | (simp; done) | (simp; omega) | omega) _) | (with_reducible refine grow_drewN ?_ _) | (with_reducible refine grow_drew ?_) | (with_reducible refine grow_step ?_ (by assumption)) | (with_reducible refine grow_base ?_ (by assumption))))⟩
    · cases f1
      · have hP : P = false := by rw [← HP.out]; simp [Slts.pick, Slts.safe, Slts.at_, Slt.trial]
        subst hP
        clear HP
        have cB := HB.out.cell
        have lB := HB.out.lt
        simp only [Slts.cs, rI] at cB
        go_enter Tryz.func37, Tryz.ntmps37
        go_wp2_with fail
        refine (rsafe_at g _ false _ HB.out rfl).mono ?_
        rintro e w1 ⟨rfl, hb1⟩
        have B1 := HB.out.below hb1
        have c1 := B1.cell
        have l1 := B1.lt
        simp only [Slts.cs, rI] at c1
        clear B1 cB lB
        simp only [rI]
        go_wp2_with fail
        go_ret
        exact ⟨rfl, (by repeat (first | (with_reducible exact grow_refl _) | (with_reducible assumption) | (with_reducible refine grow_alloc ?_ _) | (with_reducible refine grow_set ?_ (by first | exact Nat.le_refl _ | (simp; done) | (simp; omega) | omega) _) | (with_reducible refine grow_drewN ?_ _) | (with_reducible refine grow_drew ?_) | (with_reducible refine grow_step ?_ (by assumption)) | (with_reducible refine grow_base ?_ (by assumption))))⟩
      · cases g1
        · by_cases ht : 0 < t1
          · have hP : P = true := by rw [← HP.out]; simp [Slts.pick, Slts.safe, Slts.at_, Slt.trial, ht]
            subst hP
            clear HP
            have cB := HB.out.cell
            have lB := HB.out.lt
            simp only [Slts.cs, rI] at cB
            go_enter Tryz.func37, Tryz.ntmps37
            go_wp2_with fail
            refine (rsafe_at g _ false _ HB.out rfl).mono ?_
            rintro e w1 ⟨rfl, hb1⟩
            have B1 := HB.out.below hb1
            have c1 := B1.cell
            have l1 := B1.lt
            simp only [Slts.cs, rI] at c1
            clear B1 cB lB
            simp only [rI]
            go_wp2_with fail
            go_ret
            exact ⟨rfl, (by repeat (first | (with_reducible exact grow_refl _) | (with_reducible assumption) | (with_reducible refine grow_alloc ?_ _) | (with_reducible refine grow_set ?_ (by first | exact Nat.le_refl _ | (simp; done) | (simp; omega) | omega) _) | (with_reducible refine grow_drewN ?_ _) | (with_reducible refine grow_drew ?_) | (with_reducible refine grow_step ?_ (by assumption)) | (with_reducible refine grow_base ?_ (by assumption))))⟩
          · have hP : P = false := by rw [← HP.out]; simp [Slts.pick, Slts.safe, Slts.at_, Slt.trial, ht]
            subst hP
            clear HP
            have cB := HB.out.cell
            have lB := HB.out.lt
            simp only [Slts.cs, rI] at cB
            go_enter Tryz.func37, Tryz.ntmps37
            go_wp2_with fail
            refine (rsafe_at g _ false _ HB.out rfl).mono ?_
            rintro e w1 ⟨rfl, hb1⟩
            have B1 := HB.out.below hb1
            have c1 := B1.cell
            have l1 := B1.lt
            simp only [Slts.cs, rI] at c1
            clear B1 cB lB
            simp only [rI]
            go_wp2_with fail
            go_ret
            exact ⟨rfl, (by repeat (first | (with_reducible exact grow_refl _) | (with_reducible assumption) | (with_reducible refine grow_alloc ?_ _) | (with_reducible refine grow_set ?_ (by first | exact Nat.le_refl _ | (simp; done) | (simp; omega) | omega) _) | (with_reducible refine grow_drewN ?_ _) | (with_reducible refine grow_drew ?_) | (with_reducible refine grow_step ?_ (by assumption)) | (with_reducible refine grow_base ?_ (by assumption))))⟩
        · have hP : P = false := by rw [← HP.out]; simp [Slts.pick, Slts.safe, Slts.at_, Slt.trial]
          subst hP
          clear HP
          have cB := HB.out.cell
          have lB := HB.out.lt
          simp only [Slts.cs, rI] at cB
          go_enter Tryz.func37, Tryz.ntmps37
          go_wp2_with fail
          refine (rsafe_at g _ false _ HB.out rfl).mono ?_
          rintro e w1 ⟨rfl, hb1⟩
          have B1 := HB.out.below hb1
          have c1 := B1.cell
          have l1 := B1.lt
          simp only [Slts.cs, rI] at c1
          clear B1 cB lB
          simp only [rI]
          go_wp2_with fail
          go_ret
          exact ⟨rfl, (by repeat (first | (with_reducible exact grow_refl _) | (with_reducible assumption) | (with_reducible refine grow_alloc ?_ _) | (with_reducible refine grow_set ?_ (by first | exact Nat.le_refl _ | (simp; done) | (simp; omega) | omega) _) | (with_reducible refine grow_drewN ?_ _) | (with_reducible refine grow_drew ?_) | (with_reducible refine grow_step ?_ (by assumption)) | (with_reducible refine grow_base ?_ (by assumption))))⟩
  · cases g1
    · cases f1
      · have hP : P = false := by rw [← HP.out]; simp [Slts.pick, Slts.safe, Slts.at_, Slt.trial]
        subst hP
        clear HP
        have cB := HB.out.cell
        have lB := HB.out.lt
        simp only [Slts.cs, rI] at cB
        go_enter Tryz.func37, Tryz.ntmps37
        go_wp2_with fail
        refine (rsafe_at g _ false _ HB.out rfl).mono ?_
        rintro e w1 ⟨rfl, hb1⟩
        have B1 := HB.out.below hb1
        have c1 := B1.cell
        have l1 := B1.lt
        simp only [Slts.cs, rI] at c1
        clear B1 cB lB
        simp only [rI]
        go_wp2_with fail
        go_ret
        exact ⟨rfl, (by repeat (first | (with_reducible exact grow_refl _) | (with_reducible assumption) | (with_reducible refine grow_alloc ?_ _) | (with_reducible refine grow_set ?_ (by first | exact Nat.le_refl _ | (simp; done) | (simp; omega) | omega) _) | (with_reducible refine grow_drewN ?_ _) | (with_reducible refine grow_drew ?_) | (with_reducible refine grow_step ?_ (by assumption)) | (with_reducible refine grow_base ?_ (by assumption))))⟩
      · by_cases ht : 0 < t1
        · have hP : P = true := by rw [← HP.out]; simp [Slts.pick, Slts.safe, Slts.at_, Slt.trial, ht]
          subst hP
          clear HP
          have cB := HB.out.cell
          have lB := HB.out.lt
          simp only [Slts.cs, rI] at cB
          go_enter Tryz.func37, Tryz.ntmps37
          go_wp2_with fail
          refine (rsafe_at g _ false _ HB.out rfl).mono ?_
          rintro e w1 ⟨rfl, hb1⟩
          have B1 := HB.out.below hb1
          have c1 := B1.cell
          have l1 := B1.lt
          simp only [Slts.cs, rI] at c1
          clear B1 cB lB
          simp only [rI]
          go_wp2_with fail
          go_ret
          exact ⟨rfl, (by repeat (first | (with_reducible exact grow_refl _) | (with_reducible assumption) | (with_reducible refine grow_alloc ?_ _) | (with_reducible refine grow_set ?_ (by first | exact Nat.le_refl _ | (simp; done) | (simp; omega) | omega) _) | (with_reducible refine grow_drewN ?_ _) | (with_reducible refine grow_drew ?_) | (with_reducible refine grow_step ?_ (by assumption)) | (with_reducible refine grow_base ?_ (by assumption))))⟩
        · have hP : P = false := by rw [← HP.out]; simp [Slts.pick, Slts.safe, Slts.at_, Slt.trial, ht]
          subst hP
          clear HP
          have cB := HB.out.cell
          have lB := HB.out.lt
          simp only [Slts.cs, rI] at cB
          go_enter Tryz.func37, Tryz.ntmps37
          go_wp2_with fail
          refine (rsafe_at g _ false _ HB.out rfl).mono ?_
          rintro e w1 ⟨rfl, hb1⟩
          have B1 := HB.out.below hb1
          have c1 := B1.cell
          have l1 := B1.lt
          simp only [Slts.cs, rI] at c1
          clear B1 cB lB
          simp only [rI]
          go_wp2_with fail
          go_ret
          exact ⟨rfl, (by repeat (first | (with_reducible exact grow_refl _) | (with_reducible assumption) | (with_reducible refine grow_alloc ?_ _) | (with_reducible refine grow_set ?_ (by first | exact Nat.le_refl _ | (simp; done) | (simp; omega) | omega) _) | (with_reducible refine grow_drewN ?_ _) | (with_reducible refine grow_drew ?_) | (with_reducible refine grow_step ?_ (by assumption)) | (with_reducible refine grow_base ?_ (by assumption))))⟩
    · cases f0
      · have hP : P = true := by rw [← HP.out]; simp [Slts.pick, Slts.safe, Slts.at_, Slt.trial]
        subst hP
        clear HP
        have cB := HB.out.cell
        have lB := HB.out.lt
        simp only [Slts.cs, rI] at cB
        go_enter Tryz.func37, Tryz.ntmps37
        go_wp2_with fail
        refine (rsafe_at g _ true _ HB.out rfl).mono ?_
        rintro e w1 ⟨rfl, hb1⟩
        have B1 := HB.out.below hb1
        have c1 := B1.cell
        have l1 := B1.lt
        simp only [Slts.cs, rI] at c1
        clear B1 cB lB
        simp only [rI]
        go_wp2_with fail
        go_ret
        exact ⟨rfl, (by repeat (first | (with_reducible exact grow_refl _) | (with_reducible assumption) | (with_reducible refine grow_alloc ?_ _) | (with_reducible refine grow_set ?_ (by first | exact Nat.le_refl _ | (simp; done) | (simp; omega) | omega) _) | (with_reducible refine grow_drewN ?_ _) | (with_reducible refine grow_drew ?_) | (with_reducible refine grow_step ?_ (by assumption)) | (with_reducible refine grow_base ?_ (by assumption))))⟩
      · cases g0
        · by_cases ht : 0 < t0
          · have hP : P = false := by rw [← HP.out]; simp [Slts.pick, Slts.safe, Slts.at_, Slt.trial, ht]
            subst hP
            clear HP
            have cB := HB.out.cell
            have lB := HB.out.lt
            simp only [Slts.cs, rI] at cB
            go_enter Tryz.func37, Tryz.ntmps37
            go_wp2_with fail
            refine (rsafe_at g _ true _ HB.out rfl).mono ?_
            rintro e w1 ⟨rfl, hb1⟩
            have B1 := HB.out.below hb1
            have c1 := B1.cell
            have l1 := B1.lt
            simp only [Slts.cs, rI] at c1
            clear B1 cB lB
            simp only [rI]
            go_wp2_with fail
            go_ret
            exact ⟨rfl, (by repeat (first | (with_reducible exact grow_refl _) | (with_reducible assumption) | (with_reducible refine grow_alloc ?_ _) | (with_reducible refine grow_set ?_ (by first | exact Nat.le_refl _ | (simp; done) | (simp; omega) | omega) _) | (with_reducible refine grow_drewN ?_ _) | (with_reducible refine grow_drew ?_) | (with_reducible refine grow_step ?_ (by assumption)) | (with_reducible refine grow_base ?_ (by assumption))))⟩
          · have hP : P = true := by rw [← HP.out]; simp [Slts.pick, Slts.safe, Slts.at_, Slt.trial, ht]
            subst hP
            clear HP
            have cB := HB.out.cell
            have lB := HB.out.lt
            simp only [Slts.cs, rI] at cB
            go_enter Tryz.func37, Tryz.ntmps37
            go_wp2_with fail
            refine (rsafe_at g _ true _ HB.out rfl).mono ?_
            rintro e w1 ⟨rfl, hb1⟩
            have B1 := HB.out.below hb1
            have c1 := B1.cell
            have l1 := B1.lt
            simp only [Slts.cs, rI] at c1
            clear B1 cB lB
            simp only [rI]
            go_wp2_with fail
            go_ret
            exact ⟨rfl, (by repeat (first | (with_reducible exact grow_refl _) | (with_reducible assumption) | (with_reducible refine grow_alloc ?_ _) | (with_reducible refine grow_set ?_ (by first | exact Nat.le_refl _ | (simp; done) | (simp; omega) | omega) _) | (with_reducible refine grow_drewN ?_ _) | (with_reducible refine grow_drew ?_) | (with_reducible refine grow_step ?_ (by assumption)) | (with_reducible refine grow_base ?_ (by assumption))))⟩
        · have hP : P = true := by rw [← HP.out]; simp [Slts.pick, Slts.safe, Slts.at_, Slt.trial]
          subst hP
          clear HP
          have cB := HB.out.cell
          have lB := HB.out.lt
          simp only [Slts.cs, rI] at cB
          go_enter Tryz.func37, Tryz.ntmps37
          go_wp2_with fail
          refine (rsafe_at g _ true _ HB.out rfl).mono ?_
          rintro e w1 ⟨rfl, hb1⟩
          have B1 := HB.out.below hb1
          have c1 := B1.cell
          have l1 := B1.lt
          simp only [Slts.cs, rI] at c1
          clear B1 cB lB
          simp only [rI]
          go_wp2_with fail
          go_ret
          exact ⟨rfl, (by repeat (first | (with_reducible exact grow_refl _) | (with_reducible assumption) | (with_reducible refine grow_alloc ?_ _) | (with_reducible refine grow_set ?_ (by first | exact Nat.le_refl _ | (simp; done) | (simp; omega) | omega) _) | (with_reducible refine grow_drewN ?_ _) | (with_reducible refine grow_drew ?_) | (with_reducible refine grow_step ?_ (by assumption)) | (with_reducible refine grow_base ?_ (by assumption))))⟩

theorem rpick_at (g : Nat) (s : Slts) (b : Bool) (w : World) (hB : Box w g 122 s.cs) (hb : s.pick = b) :
    Calls Tryz.prog 37 #[.pointer (some ⟨g, 0, none⟩)] w fun e w' => e = .returned (.int .i64 (rI b)) ∧ Below w.heap.size w w' := hb ▸ rpick_any g s w hB

set_option maxHeartbeats 1000000 in
theorem rgood_no (g : Nat) (s : Slts) (w : World) (hB : Box w g 122 s.cs) (hg : (s.at_ s.r).g = true) :
    Calls Tryz.prog 25 #[.pointer (some ⟨g, 0, none⟩)] w fun e w' => e = .returned (.int .i64 7) ∧ Below w.heap.size w w' := by
  obtain ⟨⟨n0, v0, c0, p0, a0, f0, t0, g0⟩, ⟨n1, v1, c1, p1, a1, f1, t1, g1⟩, r⟩ := s
  have cB := hB.cell
  have lB := hB.lt
  clear hB
  cases r
  · obtain rfl : g0 = true := hg
    simp only [Slts.cs, rI] at cB
    go_enter Tryz.func25, Tryz.ntmps25
    go_wp2_with fail
    go_quiet (fail)
    go_wp2_with fail
    go_ret
    exact ⟨rfl, (by repeat (first | (with_reducible exact grow_refl _) | (with_reducible assumption) | (with_reducible refine grow_alloc ?_ _) | (with_reducible refine grow_set ?_ (by first | exact Nat.le_refl _ | (simp; done) | (simp; omega) | omega) _) | (with_reducible refine grow_drewN ?_ _) | (with_reducible refine grow_drew ?_) | (with_reducible refine grow_step ?_ (by assumption)) | (with_reducible refine grow_base ?_ (by assumption))))⟩
  · obtain rfl : g1 = true := hg
    simp only [Slts.cs, rI] at cB
    go_enter Tryz.func25, Tryz.ntmps25
    go_wp2_with fail
    go_quiet (fail)
    go_wp2_with fail
    go_ret
    exact ⟨rfl, (by repeat (first | (with_reducible exact grow_refl _) | (with_reducible assumption) | (with_reducible refine grow_alloc ?_ _) | (with_reducible refine grow_set ?_ (by first | exact Nat.le_refl _ | (simp; done) | (simp; omega) | omega) _) | (with_reducible refine grow_drewN ?_ _) | (with_reducible refine grow_drew ?_) | (with_reducible refine grow_step ?_ (by assumption)) | (with_reducible refine grow_base ?_ (by assumption))))⟩

set_option maxHeartbeats 1000000 in
theorem rgood_yes (g : Nat) (s : Slts) (w : World) (hB : Box w g 122 s.cs) (hg : (s.at_ s.r).g = false) :
    Calls Tryz.prog 25 #[.pointer (some ⟨g, 0, none⟩)] w fun e w' => e = .returned (.int .i64 0) ∧ Box w' g 122 s.good.cs ∧ But (fun k => k = g) w w' := by
  obtain ⟨⟨n0, v0, c0, p0, a0, f0, t0, g0⟩, ⟨n1, v1, c1, p1, a1, f1, t1, g1⟩, r⟩ := s
  have HB := Lib.hid hB
  have cB := hB.cell
  have lB := hB.lt
  have fB := hB.frozen
  clear hB
  cases r
  · obtain rfl : g0 = false := hg
    simp only [Slts.cs, rI] at cB
    go_enter Tryz.func25, Tryz.ntmps25
    go_wp2_with fail
    go_quiet (fail)
    go_wp2_with fail
    go_region
    go_wp2_with fail
    go_region
    go_wp2_with fail
    go_region
    go_wp2_with fail
    go_ret
    refine ⟨rfl, ?_, ?_⟩
    · first | refine Box.cast ((Box.put8 (((HB.out.drewN_ _).set_ 7 _).set_ 6 _) 8 9 10 11 12 13 14 15 _ _ _ _ _ _ _ _).drew_).drew_ ?_ | refine Box.cast (Box.put8 (((HB.out.drewN_ _).set_ 7 _).set_ 6 _) 8 9 10 11 12 13 14 15 _ _ _ _ _ _ _ _) ?_
      simp [Slts.cs, Slts.good, Slts.set_, Slts.at_, Slt.good, noSlt, rI, Slts.put]
    · first | exact (But.put8 ((((But.refl (fun k => k = g) w).drewN _).setCell (Or.inl rfl) _).setCell (Or.inl rfl) _) rfl).drew.drew | exact But.put8 ((((But.refl (fun k => k = g) w).drewN _).setCell (Or.inl rfl) _).setCell (Or.inl rfl) _) rfl
  · obtain rfl : g1 = false := hg
    simp only [Slts.cs, rI] at cB
    go_enter Tryz.func25, Tryz.ntmps25
    go_wp2_with fail
    go_quiet (fail)
    go_wp2_with fail
    go_region
    go_wp2_with fail
    go_region
    go_wp2_with fail
    go_region
    go_wp2_with fail
    go_ret
    refine ⟨rfl, ?_, ?_⟩
    · first | refine Box.cast ((Box.put8 (((HB.out.drewN_ _).set_ 15 _).set_ 14 _) 0 1 2 3 4 5 6 7 _ _ _ _ _ _ _ _).drew_).drew_ ?_ | refine Box.cast (Box.put8 (((HB.out.drewN_ _).set_ 15 _).set_ 14 _) 0 1 2 3 4 5 6 7 _ _ _ _ _ _ _ _) ?_
      simp [Slts.cs, Slts.good, Slts.set_, Slts.at_, Slt.good, noSlt, rI, Slts.put]
    · first | exact (But.put8 ((((But.refl (fun k => k = g) w).drewN _).setCell (Or.inl rfl) _).setCell (Or.inl rfl) _) rfl).drew.drew | exact But.put8 ((((But.refl (fun k => k = g) w).drewN _).setCell (Or.inl rfl) _).setCell (Or.inl rfl) _) rfl

set_option maxHeartbeats 1000000 in
theorem rput_bad (g : Nat) (n : ByteArray) (v : Int) (c : ByteArray) (p a : Int) (w : World) (hn : n.size ≤ 9000000000000000000) (hc : c.size ≤ 9000000000000000000) (hi : imgE n v c ≠ 0) :
    Calls Tryz.prog 69 #[.pointer (some ⟨g, 0, none⟩), .agg #[.string n, .int .i64 v, .string c, .int .i64 p, .int .i64 a]] w fun e w' => e = .returned (.int .i64 (imgE n v c)) ∧ Below w.heap.size w w' := by
  obtain ⟨E, hE⟩ : ∃ E, imgE n v c = E := ⟨_, rfl⟩
  rw [hE] at hi ⊢
  have t : (E != 0) = true := by simp [hi]
  have HE := Lib.hid hE
  clear hE hi
  go_enter Tryz.func69, Tryz.ntmps69
  go_wp2_with fail
  refine (rImage_any n v c _ hn hc).mono ?_
  rintro e w1 ⟨rfl, hb1⟩
  rw [HE.out]
  go_wp2_with fail
  go_ret
  exact ⟨rfl, (by repeat (first | (with_reducible exact grow_refl _) | (with_reducible assumption) | (with_reducible refine grow_alloc ?_ _) | (with_reducible refine grow_set ?_ (by first | exact Nat.le_refl _ | (simp; done) | (simp; omega) | omega) _) | (with_reducible refine grow_drewN ?_ _) | (with_reducible refine grow_drew ?_) | (with_reducible refine grow_step ?_ (by assumption)) | (with_reducible refine grow_base ?_ (by assumption))))⟩

set_option maxHeartbeats 1000000 in
theorem rput_no (g : Nat) (s : Slts) (n : ByteArray) (v : Int) (c : ByteArray) (p a : Int) (w : World) (hB : Box w g 122 s.cs) (hn : n.size ≤ 9000000000000000000) (hc : c.size ≤ 9000000000000000000) (hi : imgE n v c = 0) (hg : (s.at_ s.r).g = false) :
    Calls Tryz.prog 69 #[.pointer (some ⟨g, 0, none⟩), .agg #[.string n, .int .i64 v, .string c, .int .i64 p, .int .i64 a]] w fun e w' => e = .returned (.int .i64 6) ∧ Below w.heap.size w w' := by
  obtain ⟨⟨n0, v0, c0, p0, a0, f0, t0, g0⟩, ⟨n1, v1, c1, p1, a1, f1, t1, g1⟩, r⟩ := s
  have HI := Lib.hid hi
  have HB := Lib.hid (hB.alloc_ (.cells #[.string n, .int .i64 v, .string c, .int .i64 p, .int .i64 a] 32))
  clear hi hB
  cases r
  · obtain rfl : g0 = false := hg
    go_enter Tryz.func69, Tryz.ntmps69
    go_wp2_with fail
    refine (rImage_any n v c _ hn hc).mono ?_
    rintro e w1 ⟨rfl, hb1⟩
    rw [HI.out]
    have B1 := HB.out.below hb1
    have cB := B1.cell
    have lB := B1.lt
    simp only [Slts.cs, rI] at cB
    go_wp2_with fail
    go_quiet (fail)
    go_wp2_with fail
    go_ret
    exact ⟨rfl, (by repeat (first | (with_reducible exact grow_refl _) | (with_reducible assumption) | (with_reducible refine grow_alloc ?_ _) | (with_reducible refine grow_set ?_ (by first | exact Nat.le_refl _ | (simp; done) | (simp; omega) | omega) _) | (with_reducible refine grow_drewN ?_ _) | (with_reducible refine grow_drew ?_) | (with_reducible refine grow_step ?_ (by assumption)) | (with_reducible refine grow_base ?_ (by assumption))))⟩
  · obtain rfl : g1 = false := hg
    go_enter Tryz.func69, Tryz.ntmps69
    go_wp2_with fail
    refine (rImage_any n v c _ hn hc).mono ?_
    rintro e w1 ⟨rfl, hb1⟩
    rw [HI.out]
    have B1 := HB.out.below hb1
    have cB := B1.cell
    have lB := B1.lt
    simp only [Slts.cs, rI] at cB
    go_wp2_with fail
    go_quiet (fail)
    go_wp2_with fail
    go_ret
    exact ⟨rfl, (by repeat (first | (with_reducible exact grow_refl _) | (with_reducible assumption) | (with_reducible refine grow_alloc ?_ _) | (with_reducible refine grow_set ?_ (by first | exact Nat.le_refl _ | (simp; done) | (simp; omega) | omega) _) | (with_reducible refine grow_drewN ?_ _) | (with_reducible refine grow_drew ?_) | (with_reducible refine grow_step ?_ (by assumption)) | (with_reducible refine grow_base ?_ (by assumption))))⟩

set_option maxHeartbeats 1000000 in
theorem rput_yes (g : Nat) (s : Slts) (n : ByteArray) (v : Int) (c : ByteArray) (p a : Int) (w : World) (hB : Box w g 122 s.cs) (hn : n.size ≤ 9000000000000000000) (hc : c.size ≤ 9000000000000000000) (hi : imgE n v c = 0) (hg : (s.at_ s.r).g = true) :
    Calls Tryz.prog 69 #[.pointer (some ⟨g, 0, none⟩), .agg #[.string n, .int .i64 v, .string c, .int .i64 p, .int .i64 a]] w fun e w' => e = .returned (.int .i64 0) ∧ Box w' g 122 (s.put n v c p a).cs ∧ But (fun k => k = g) w w' := by
  obtain ⟨⟨n0, v0, c0, p0, a0, f0, t0, g0⟩, ⟨n1, v1, c1, p1, a1, f1, t1, g1⟩, r⟩ := s
  have HI := Lib.hid hi
  have HB0 := Lib.hid (hB.alloc_ (.cells #[.string n, .int .i64 v, .string c, .int .i64 p, .int .i64 a] 32))
  have HS := Lib.hid (Box.new w 32 #[.string n, .int .i64 v, .string c, .int .i64 p, .int .i64 a])
  have hgl := hB.lt
  clear hi hB
  cases r
  · obtain rfl : g0 = true := hg
    go_enter Tryz.func69, Tryz.ntmps69
    go_wp2_with fail
    refine (rImage_any n v c _ hn hc).mono ?_
    rintro e w1 ⟨rfl, hb1⟩
    rw [HI.out]
    have HB := Lib.hid (HB0.out.below hb1)
    have cB := HB.out.cell
    have lB := HB.out.lt
    have fB := HB.out.frozen
    have S1 := HS.out.below hb1
    have cS := S1.cell
    have lS := S1.lt
    have hb2 : Below w.heap.size w w1 := grow_step (grow_alloc (grow_refl _) _) hb1
    have HK : Hid (But (fun k => k = g) w w1) := Lib.hid (below_but hb2 _)
    clear S1 HB0 HS hb1 hb2
    simp only [Slts.cs, rI] at cB
    go_wp2_with fail
    go_quiet (fail)
    go_wp2_with fail
    go_region
    go_wp2_with fail
    go_ret
    refine ⟨rfl, ?_, ?_⟩
    · first | refine Box.cast (Box.put8 (HB.out.drewN_ _) 8 9 10 11 12 13 14 15 _ _ _ _ _ _ _ _) ?_ | refine Box.cast (Box.put8 (HB.out.drewN_ _) 8 9 10 11 12 13 14 15 _ _ _ _ _ _ _ _).drew_ ?_
      simp [Slts.cs, Slts.good, Slts.set_, Slts.at_, Slt.good, noSlt, rI, Slts.put]
    · first | exact But.put8 (HK.out.drewN _) rfl | exact (But.put8 (HK.out.drewN _) rfl).drew

  · obtain rfl : g1 = true := hg
    go_enter Tryz.func69, Tryz.ntmps69
    go_wp2_with fail
    refine (rImage_any n v c _ hn hc).mono ?_
    rintro e w1 ⟨rfl, hb1⟩
    rw [HI.out]
    have HB := Lib.hid (HB0.out.below hb1)
    have cB := HB.out.cell
    have lB := HB.out.lt
    have fB := HB.out.frozen
    have S1 := HS.out.below hb1
    have cS := S1.cell
    have lS := S1.lt
    have hb2 : Below w.heap.size w w1 := grow_step (grow_alloc (grow_refl _) _) hb1
    have HK : Hid (But (fun k => k = g) w w1) := Lib.hid (below_but hb2 _)
    clear S1 HB0 HS hb1 hb2
    simp only [Slts.cs, rI] at cB
    go_wp2_with fail
    go_quiet (fail)
    go_wp2_with fail
    go_region
    go_wp2_with fail
    go_ret
    refine ⟨rfl, ?_, ?_⟩
    · first | refine Box.cast (Box.put8 (HB.out.drewN_ _) 0 1 2 3 4 5 6 7 _ _ _ _ _ _ _ _) ?_ | refine Box.cast (Box.put8 (HB.out.drewN_ _) 0 1 2 3 4 5 6 7 _ _ _ _ _ _ _ _).drew_ ?_
      simp [Slts.cs, Slts.good, Slts.set_, Slts.at_, Slt.good, noSlt, rI, Slts.put]
    · first | exact But.put8 (HK.out.drewN _) rfl | exact (But.put8 (HK.out.drewN _) rfl).drew


set_option maxHeartbeats 2000000 in
theorem rstart_at (g : Nat) (s : Slts) (P : Bool) (w : World) (hB : Box w g 122 s.cs) (hP : s.pick = P) (ht : 0 ≤ (s.at_ P).t ∧ (s.at_ P).t ≤ 1000) :
    Calls Tryz.prog 39 #[.pointer (some ⟨g, 0, none⟩)] w fun e w' => e = .returned (.agg (s.at_ P).im) ∧ Box w' g 122 (Slts.set_ ⟨s.x, s.y, P⟩ P (s.at_ P).tried).cs ∧ But (fun k => k = g) w w' := by
  obtain ⟨⟨n0, v0, c0, p0, a0, f0, t0, g0⟩, ⟨n1, v1, c1, p1, a1, f1, t1, g1⟩, r⟩ := s
  have HP := Lib.hid hP
  have HB0 := Lib.hid (hB.alloc_ (.cells #[.string ⟨#[]⟩, .int .i64 0, .string ⟨#[]⟩, .int .i64 0, .int .i64 0] 32))
  have HR0 := Lib.hid (Box.new w 32 #[.string ⟨#[]⟩, .int .i64 0, .string ⟨#[]⟩, .int .i64 0, .int .i64 0])
  have hgl := hB.lt
  have HNE : Hid (g ≠ w.heap.size) := Lib.hid (by omega)
  have HNE2 : Hid (w.heap.size ≠ g) := Lib.hid (by omega)
  clear hP hB
  cases P
  · cases g0
    · obtain ⟨ht1, ht2⟩ : 0 ≤ t0 ∧ t0 ≤ 1000 := ht
      go_enter Tryz.func39, Tryz.ntmps39
      go_wp2_with fail
      refine (rpick_at g _ false _ HB0.out HP.out).mono ?_
      rintro e w1 ⟨rfl, hb1⟩
      have HB := Lib.hid (HB0.out.below hb1)
      have HR := Lib.hid (HR0.out.below hb1)
      have hb2 : Below w.heap.size w w1 := grow_step (grow_alloc (grow_refl _) _) hb1
      have HK : Hid (But (fun k => k = g) w w1) := Lib.hid (below_but hb2 _)
      have cB := HB.out.cell
      have lB := HB.out.lt
      have fB := HB.out.frozen
      have cR := HR.out.cell
      have lR := HR.out.lt
      have fR := HR.out.frozen
      simp only [Slts.cs, rI] at cB
      clear hb1 hb2
      simp only [rI]
      go_wp2_with fail
      go_quiet (fail)
      go_wp2_with fail
      go_region
      go_wp2_with fail
      go_region
      go_wp2_with fail
      refine bodyPost_ret (v := .agg #[.string n0, .int .i64 v0, .string c0, .int .i64 p0, .int .i64 a0]) (ret_cell Tryz.results39 rfl (Box.drew_ (Box.fill5 (((HR.out.far (p := ⟨g, 16, none⟩) HNE2.out _).drewN_ _).far (p := ⟨g, 6, none⟩) HNE2.out _) _ _ _ _ _)) Tryz.underlying32 rfl (by kernel_rfl)) rfl ⟨rfl, ?_, ?_⟩
      · refine Box.cast (((((((((HB.out.set_ 16 _).drewN_ _).set_ 6 _).far (p := ⟨w.heap.size, 0, none⟩) HNE.out _).far (p := ⟨w.heap.size, 1, none⟩) HNE.out _).far (p := ⟨w.heap.size, 2, none⟩) HNE.out _).far (p := ⟨w.heap.size, 3, none⟩) HNE.out _).far (p := ⟨w.heap.size, 4, none⟩) HNE.out _)).drew_ ?_
        simp [Slts.cs, Slts.set_, Slts.at_, Slt.tried, rI]
      · exact (((((((((HK.out.setCell (Or.inl rfl) _).drewN _).setCell (Or.inl rfl) _).setCell (Or.inr (Nat.le_refl _)) _).setCell (Or.inr (Nat.le_refl _)) _).setCell (Or.inr (Nat.le_refl _)) _).setCell (Or.inr (Nat.le_refl _)) _).setCell (Or.inr (Nat.le_refl _)) _)).drew
    · obtain ⟨ht1, ht2⟩ : 0 ≤ t0 ∧ t0 ≤ 1000 := ht
      go_enter Tryz.func39, Tryz.ntmps39
      go_wp2_with fail
      refine (rpick_at g _ false _ HB0.out HP.out).mono ?_
      rintro e w1 ⟨rfl, hb1⟩
      have HB := Lib.hid (HB0.out.below hb1)
      have HR := Lib.hid (HR0.out.below hb1)
      have hb2 : Below w.heap.size w w1 := grow_step (grow_alloc (grow_refl _) _) hb1
      have HK : Hid (But (fun k => k = g) w w1) := Lib.hid (below_but hb2 _)
      have cB := HB.out.cell
      have lB := HB.out.lt
      have fB := HB.out.frozen
      have cR := HR.out.cell
      have lR := HR.out.lt
      have fR := HR.out.frozen
      simp only [Slts.cs, rI] at cB
      clear hb1 hb2
      simp only [rI]
      go_wp2_with fail
      go_quiet (fail)
      go_wp2_with fail
      go_region
      go_wp2_with fail
      refine bodyPost_ret (v := .agg #[.string n0, .int .i64 v0, .string c0, .int .i64 p0, .int .i64 a0]) (ret_cell Tryz.results39 rfl (Box.fill5 ((HR.out.far (p := ⟨g, 16, none⟩) HNE2.out _).drewN_ _) _ _ _ _ _) Tryz.underlying32 rfl (by kernel_rfl)) rfl ⟨rfl, ?_, ?_⟩
      · refine Box.cast ((((((((HB.out.set_ 16 _).drewN_ _).far (p := ⟨w.heap.size, 0, none⟩) HNE.out _).far (p := ⟨w.heap.size, 1, none⟩) HNE.out _).far (p := ⟨w.heap.size, 2, none⟩) HNE.out _).far (p := ⟨w.heap.size, 3, none⟩) HNE.out _).far (p := ⟨w.heap.size, 4, none⟩) HNE.out _)) ?_
        simp [Slts.cs, Slts.set_, Slts.at_, Slt.tried, rI]
      · exact ((((((((HK.out.setCell (Or.inl rfl) _).drewN _).setCell (Or.inr (Nat.le_refl _)) _).setCell (Or.inr (Nat.le_refl _)) _).setCell (Or.inr (Nat.le_refl _)) _).setCell (Or.inr (Nat.le_refl _)) _).setCell (Or.inr (Nat.le_refl _)) _))
  · cases g1
    · obtain ⟨ht1, ht2⟩ : 0 ≤ t1 ∧ t1 ≤ 1000 := ht
      go_enter Tryz.func39, Tryz.ntmps39
      go_wp2_with fail
      refine (rpick_at g _ true _ HB0.out HP.out).mono ?_
      rintro e w1 ⟨rfl, hb1⟩
      have HB := Lib.hid (HB0.out.below hb1)
      have HR := Lib.hid (HR0.out.below hb1)
      have hb2 : Below w.heap.size w w1 := grow_step (grow_alloc (grow_refl _) _) hb1
      have HK : Hid (But (fun k => k = g) w w1) := Lib.hid (below_but hb2 _)
      have cB := HB.out.cell
      have lB := HB.out.lt
      have fB := HB.out.frozen
      have cR := HR.out.cell
      have lR := HR.out.lt
      have fR := HR.out.frozen
      simp only [Slts.cs, rI] at cB
      clear hb1 hb2
      simp only [rI]
      go_wp2_with fail
      go_quiet (fail)
      go_wp2_with fail
      go_region
      go_wp2_with fail
      go_region
      go_wp2_with fail
      refine bodyPost_ret (v := .agg #[.string n1, .int .i64 v1, .string c1, .int .i64 p1, .int .i64 a1]) (ret_cell Tryz.results39 rfl (Box.drew_ (Box.fill5 (((HR.out.far (p := ⟨g, 16, none⟩) HNE2.out _).drewN_ _).far (p := ⟨g, 14, none⟩) HNE2.out _) _ _ _ _ _)) Tryz.underlying32 rfl (by kernel_rfl)) rfl ⟨rfl, ?_, ?_⟩
      · refine Box.cast (((((((((HB.out.set_ 16 _).drewN_ _).set_ 14 _).far (p := ⟨w.heap.size, 0, none⟩) HNE.out _).far (p := ⟨w.heap.size, 1, none⟩) HNE.out _).far (p := ⟨w.heap.size, 2, none⟩) HNE.out _).far (p := ⟨w.heap.size, 3, none⟩) HNE.out _).far (p := ⟨w.heap.size, 4, none⟩) HNE.out _)).drew_ ?_
        simp [Slts.cs, Slts.set_, Slts.at_, Slt.tried, rI]
      · exact (((((((((HK.out.setCell (Or.inl rfl) _).drewN _).setCell (Or.inl rfl) _).setCell (Or.inr (Nat.le_refl _)) _).setCell (Or.inr (Nat.le_refl _)) _).setCell (Or.inr (Nat.le_refl _)) _).setCell (Or.inr (Nat.le_refl _)) _).setCell (Or.inr (Nat.le_refl _)) _)).drew
    · obtain ⟨ht1, ht2⟩ : 0 ≤ t1 ∧ t1 ≤ 1000 := ht
      go_enter Tryz.func39, Tryz.ntmps39
      go_wp2_with fail
      refine (rpick_at g _ true _ HB0.out HP.out).mono ?_
      rintro e w1 ⟨rfl, hb1⟩
      have HB := Lib.hid (HB0.out.below hb1)
      have HR := Lib.hid (HR0.out.below hb1)
      have hb2 : Below w.heap.size w w1 := grow_step (grow_alloc (grow_refl _) _) hb1
      have HK : Hid (But (fun k => k = g) w w1) := Lib.hid (below_but hb2 _)
      have cB := HB.out.cell
      have lB := HB.out.lt
      have fB := HB.out.frozen
      have cR := HR.out.cell
      have lR := HR.out.lt
      have fR := HR.out.frozen
      simp only [Slts.cs, rI] at cB
      clear hb1 hb2
      simp only [rI]
      go_wp2_with fail
      go_quiet (fail)
      go_wp2_with fail
      go_region
      go_wp2_with fail
      refine bodyPost_ret (v := .agg #[.string n1, .int .i64 v1, .string c1, .int .i64 p1, .int .i64 a1]) (ret_cell Tryz.results39 rfl (Box.fill5 ((HR.out.far (p := ⟨g, 16, none⟩) HNE2.out _).drewN_ _) _ _ _ _ _) Tryz.underlying32 rfl (by kernel_rfl)) rfl ⟨rfl, ?_, ?_⟩
      · refine Box.cast ((((((((HB.out.set_ 16 _).drewN_ _).far (p := ⟨w.heap.size, 0, none⟩) HNE.out _).far (p := ⟨w.heap.size, 1, none⟩) HNE.out _).far (p := ⟨w.heap.size, 2, none⟩) HNE.out _).far (p := ⟨w.heap.size, 3, none⟩) HNE.out _).far (p := ⟨w.heap.size, 4, none⟩) HNE.out _)) ?_
        simp [Slts.cs, Slts.set_, Slts.at_, Slt.tried, rI]
      · exact ((((((((HK.out.setCell (Or.inl rfl) _).drewN _).setCell (Or.inr (Nat.le_refl _)) _).setCell (Or.inr (Nat.le_refl _)) _).setCell (Or.inr (Nat.le_refl _)) _).setCell (Or.inr (Nat.le_refl _)) _).setCell (Or.inr (Nat.le_refl _)) _))


set_option maxHeartbeats 1000000 in
theorem rslotNew (n : ByteArray) (v : Int) (c : ByteArray) (p a : Int) (w : World) :
    Calls Tryz.prog 23 #[.agg #[.string n, .int .i64 v, .string c, .int .i64 p, .int .i64 a]] w fun e w' => ∃ g : Nat, e = .returned (.pointer (some ⟨g, 0, none⟩)) ∧ Box w' g 122 (Slts.cs ⟨⟨n, v, c, p, a, true, 0, true⟩, noSlt, false⟩) ∧ w.heap.size ≤ g ∧ Below w.heap.size w w' := by
  have HS := Lib.hid (Box.new w 32 #[.string n, .int .i64 v, .string c, .int .i64 p, .int .i64 a])
  go_enter Tryz.func23, Tryz.ntmps23
  go_wp2_with fail
  go_region
  go_wp2_with fail
  go_ret
  have h := Box.new (w.alloc (.cells #[.string n, .int .i64 v, .string c, .int .i64 p, .int .i64 a] 32)) 122 #[.string n, .int .i64 v, .string c, .int .i64 p, .int .i64 a, .bool true, .int .i64 0, .bool true, .string ⟨#[]⟩, .int .i64 0, .string ⟨#[]⟩, .int .i64 0, .int .i64 0, .bool false, .int .i64 0, .bool false, .int .i64 0]
  have e : (w.alloc (.cells #[.string n, .int .i64 v, .string c, .int .i64 p, .int .i64 a] 32)).heap.size = w.heap.size + 1 := by simp
  rw [e] at h
  exact ⟨w.heap.size + 1, rfl, Box.cast h.drew_ rfl, by omega, (by repeat (first | (with_reducible exact grow_refl _) | (with_reducible assumption) | (with_reducible refine grow_alloc ?_ _) | (with_reducible refine grow_set ?_ (by first | exact Nat.le_refl _ | (simp; done) | (simp; omega) | omega) _) | (with_reducible refine grow_drewN ?_ _) | (with_reducible refine grow_drew ?_) | (with_reducible refine grow_step ?_ (by assumption)) | (with_reducible refine grow_base ?_ (by assumption))))⟩

end Go.Proofs.YtdedllfgeekogaaGreatDoor
