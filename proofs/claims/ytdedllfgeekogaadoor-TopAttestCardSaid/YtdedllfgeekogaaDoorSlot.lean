/- slot: two slots of images, and which one runs. slot: Start, New. -/
import Derived.Test.YtdedllfgeekogaaDoorRows
import Derived.Test.YtdedllfgeekogaaDoorNum
import Derived.Test.YtdedllfgeekogaaDoorBase
import Derived.Test.YtdedllfgeekogaaDoorMeas
import Derived.Test.YtdedllfgeekogaaDoorApp
import Derived.Test.YtdedllfgeekogaaDoorFoot
import Derived.Test.YtdedllfgeekogaaDoorImg
import Derived.WalkKit
import Derived.WalkSpells
import Derived.WalkLawsBesides
import Derived.Lib.Hide
import Derived.Deep.QuietTactic
import Derived.BigQuiet
import Derived.RegionTactic
import Derived.BigRegion
namespace Go.Proofs.YtdedllfgeekogaaDoor
open Go.RowKit
set_option maxRecDepth 100000
set_option linter.unusedSimpArgs false

structure Slt where
  n : ByteArray
  v : Int
  c : ByteArray
  p : Int
  a : Int
  f : Bool
  t : Int
  g : Bool
structure Slts where
  x : Slt
  y : Slt
  r : Bool
def rI (r : Bool) : Int := if r then 1 else 0
def Slt.cs (s : Slt) : Array Value := #[.string s.n, .int .i64 s.v, .string s.c, .int .i64 s.p, .int .i64 s.a, .bool s.f, .int .i64 s.t, .bool s.g]
def Slt.im (s : Slt) : Array Value := #[.string s.n, .int .i64 s.v, .string s.c, .int .i64 s.p, .int .i64 s.a]
def Slts.cs (s : Slts) : Array Value := #[.string s.x.n, .int .i64 s.x.v, .string s.x.c, .int .i64 s.x.p, .int .i64 s.x.a, .bool s.x.f, .int .i64 s.x.t, .bool s.x.g, .string s.y.n, .int .i64 s.y.v, .string s.y.c, .int .i64 s.y.p, .int .i64 s.y.a, .bool s.y.f, .int .i64 s.y.t, .bool s.y.g, .int .i64 (rI s.r)]
def noSlt : Slt := ⟨⟨#[]⟩, 0, ⟨#[]⟩, 0, 0, false, 0, false⟩
def Slts.at_ (s : Slts) (r : Bool) : Slt := if r then s.y else s.x
def Slts.set_ (s : Slts) (r : Bool) (z : Slt) : Slts := if r then ⟨s.x, z, s.r⟩ else ⟨z, s.y, s.r⟩
def Slts.safe (s : Slts) : Bool := if (s.at_ s.r).g then s.r else !s.r
def Slt.trial (s : Slt) : Bool := s.f && !s.g && decide (0 < s.t)
def Slts.pick (s : Slts) : Bool := if (s.at_ (!s.safe)).trial then !s.safe else s.safe
def Slts.put (s : Slts) (n : ByteArray) (v : Int) (c : ByteArray) (p a : Int) : Slts := s.set_ (!s.r) ⟨n, v, c, p, a, true, 3, false⟩
def Slt.good (s : Slt) : Slt := ⟨s.n, s.v, s.c, s.p, s.a, s.f, 0, true⟩
def Slts.good (s : Slts) : Slts := (s.set_ s.r (s.at_ s.r).good).set_ (!s.r) noSlt
def Slt.tried (s : Slt) : Slt := if s.g then s else ⟨s.n, s.v, s.c, s.p, s.a, s.f, s.t - 1, s.g⟩
def Slts.start (s : Slts) : Slts := Slts.set_ ⟨s.x, s.y, s.pick⟩ s.pick (s.at_ s.pick).tried
theorem Box.cast {w : World} {b : Nat} {t : TypeId} {cs cs' : Array Value} (h : Box w b t cs) (e : cs = cs') : Box w b t cs' := e ▸ h
theorem Box.put8 {w : World} {b : Nat} {t : TypeId} {cs : Array Value} (h : Box w b t cs) (i0 i1 i2 i3 i4 i5 i6 i7 : Nat) (u0 u1 u2 u3 u4 u5 u6 u7 : Value) :
    Box ((((((((w.setCell ⟨b, i0, none⟩ u0).setCell ⟨b, i1, none⟩ u1).setCell ⟨b, i2, none⟩ u2).setCell ⟨b, i3, none⟩ u3).setCell ⟨b, i4, none⟩ u4).setCell ⟨b, i5, none⟩ u5).setCell ⟨b, i6, none⟩ u6).setCell ⟨b, i7, none⟩ u7) b t
      ((((((((cs.setIfInBounds i0 u0).setIfInBounds i1 u1).setIfInBounds i2 u2).setIfInBounds i3 u3).setIfInBounds i4 u4).setIfInBounds i5 u5).setIfInBounds i6 u6).setIfInBounds i7 u7) :=
  ((((((((h.set_ i0 u0).set_ i1 u1).set_ i2 u2).set_ i3 u3).set_ i4 u4).set_ i5 u5).set_ i6 u6).set_ i7 u7)

theorem But.put8 {S : Nat → Prop} {a w : World} {b : Nat} (h : But S a w) (hb : S b) {i0 i1 i2 i3 i4 i5 i6 i7 : Nat} {u0 u1 u2 u3 u4 u5 u6 u7 : Value} :
    But S a ((((((((w.setCell ⟨b, i0, none⟩ u0).setCell ⟨b, i1, none⟩ u1).setCell ⟨b, i2, none⟩ u2).setCell ⟨b, i3, none⟩ u3).setCell ⟨b, i4, none⟩ u4).setCell ⟨b, i5, none⟩ u5).setCell ⟨b, i6, none⟩ u6).setCell ⟨b, i7, none⟩ u7) :=
  (((((((h.setCell (Or.inl hb) _).setCell (Or.inl hb) _).setCell (Or.inl hb) _).setCell (Or.inl hb) _).setCell (Or.inl hb) _).setCell (Or.inl hb) _).setCell (Or.inl hb) _).setCell (Or.inl hb) _

set_option maxHeartbeats 2000000 in
theorem safe_any (g : Nat) (s : Slts) (w : World) (hB : Box w g 148 s.cs) :
    Calls Tryd.prog 56 #[.pointer (some ⟨g, 0, none⟩)] w fun e w' => e = .returned (.int .i64 (rI s.safe)) ∧ Below w.heap.size w w' := by
  obtain ⟨⟨n0, v0, c0, p0, a0, f0, t0, g0⟩, ⟨n1, v1, c1, p1, a1, f1, t1, g1⟩, r⟩ := s
  have cB := hB.cell
  have lB := hB.lt
  clear hB
  cases r
  · cases g0
    all_goals
      simp only [Slts.cs, rI] at cB
      go_enter Tryd.func56, Tryd.ntmps56
      go_wp2_with fail
      go_quiet (fail)
      go_wp2_with fail
      go_ret
      exact ⟨rfl, (by repeat (first | (with_reducible exact grow_refl _) | (with_reducible assumption) | (with_reducible refine grow_alloc ?_ _) | (with_reducible refine grow_set ?_ (by first | exact Nat.le_refl _ | (simp; done) | (simp; omega) | omega) _) | (with_reducible refine grow_drewN ?_ _) | (with_reducible refine grow_drew ?_) | (with_reducible refine grow_step ?_ (by assumption)) | (with_reducible refine grow_base ?_ (by assumption))))⟩
  · cases g1
    all_goals
      simp only [Slts.cs, rI] at cB
      go_enter Tryd.func56, Tryd.ntmps56
      go_wp2_with fail
      go_quiet (fail)
      go_wp2_with fail
      go_ret
      exact ⟨rfl, (by repeat (first | (with_reducible exact grow_refl _) | (with_reducible assumption) | (with_reducible refine grow_alloc ?_ _) | (with_reducible refine grow_set ?_ (by first | exact Nat.le_refl _ | (simp; done) | (simp; omega) | omega) _) | (with_reducible refine grow_drewN ?_ _) | (with_reducible refine grow_drew ?_) | (with_reducible refine grow_step ?_ (by assumption)) | (with_reducible refine grow_base ?_ (by assumption))))⟩

theorem safe_at (g : Nat) (s : Slts) (b : Bool) (w : World) (hB : Box w g 148 s.cs) (hb : s.safe = b) :
    Calls Tryd.prog 56 #[.pointer (some ⟨g, 0, none⟩)] w fun e w' => e = .returned (.int .i64 (rI b)) ∧ Below w.heap.size w w' := hb ▸ safe_any g s w hB

set_option maxHeartbeats 8000000 in
theorem pick_any (g : Nat) (s : Slts) (w : World) (hB : Box w g 148 s.cs) :
    Calls Tryd.prog 55 #[.pointer (some ⟨g, 0, none⟩)] w fun e w' => e = .returned (.int .i64 (rI s.pick)) ∧ Below w.heap.size w w' := by
  obtain ⟨⟨n0, v0, c0, p0, a0, f0, t0, g0⟩, ⟨n1, v1, c1, p1, a1, f1, t1, g1⟩, r⟩ := s
  have HB := Lib.hid hB
  clear hB
  obtain ⟨P, hP⟩ : ∃ P, Slts.pick ⟨⟨n0, v0, c0, p0, a0, f0, t0, g0⟩, ⟨n1, v1, c1, p1, a1, f1, t1, g1⟩, r⟩ = P := ⟨_, rfl⟩
  have HP := Lib.hid hP
  rw [hP]
  clear hP
  cases r
  · cases g0
    · cases f0
      · have hP : P = true := by rw [← HP.out]; simp [Slts.pick, Slts.safe, Slts.at_, Slt.trial]
        subst hP
        clear HP
        have cB := HB.out.cell
        have lB := HB.out.lt
        simp only [Slts.cs, rI] at cB
        go_enter Tryd.func55, Tryd.ntmps55
        go_wp2_with fail
        refine (safe_at g _ true _ HB.out rfl).mono ?_
        rintro e w1 ⟨rfl, hb1⟩
        have B1 := HB.out.below hb1
        have c1 := B1.cell
        have l1 := B1.lt
        simp only [Slts.cs, rI] at c1
        clear B1 cB lB
        simp only [rI]
        go_wp2_with fail
        go_ret
        exact ⟨rfl, (by repeat (first | (with_reducible exact grow_refl _) | (with_reducible assumption) | (with_reducible refine grow_alloc ?_ _) | (with_reducible refine grow_set ?_ (by first | exact Nat.le_refl _ | (simp; done) | (simp; omega) | omega) _) | (with_reducible refine grow_drewN ?_ _) | (with_reducible refine grow_drew ?_) | (with_reducible refine grow_step ?_ (by assumption)) | (with_reducible refine grow_base ?_ (by assumption))))⟩
      · by_cases ht : 0 < t0
        · have hP : P = false := by rw [← HP.out]; simp [Slts.pick, Slts.safe, Slts.at_, Slt.trial, ht]
          subst hP
          clear HP
          have cB := HB.out.cell
          have lB := HB.out.lt
          simp only [Slts.cs, rI] at cB
          go_enter Tryd.func55, Tryd.ntmps55
          go_wp2_with fail
          refine (safe_at g _ true _ HB.out rfl).mono ?_
          rintro e w1 ⟨rfl, hb1⟩
          have B1 := HB.out.below hb1
          have c1 := B1.cell
          have l1 := B1.lt
          simp only [Slts.cs, rI] at c1
          clear B1 cB lB
          simp only [rI]
          go_wp2_with fail
          go_ret
          exact ⟨rfl, (by repeat (first | (with_reducible exact grow_refl _) | (with_reducible assumption) | (with_reducible refine grow_alloc ?_ _) | (with_reducible refine grow_set ?_ (by first | exact Nat.le_refl _ | (simp; done) | (simp; omega) | omega) _) | (with_reducible refine grow_drewN ?_ _) | (with_reducible refine grow_drew ?_) | (with_reducible refine grow_step ?_ (by assumption)) | (with_reducible refine grow_base ?_ (by assumption))))⟩
        · have hP : P = true := by rw [← HP.out]; simp [Slts.pick, Slts.safe, Slts.at_, Slt.trial, ht]
          subst hP
          clear HP
          have cB := HB.out.cell
          have lB := HB.out.lt
          simp only [Slts.cs, rI] at cB
          go_enter Tryd.func55, Tryd.ntmps55
          go_wp2_with fail
          refine (safe_at g _ true _ HB.out rfl).mono ?_
          rintro e w1 ⟨rfl, hb1⟩
          have B1 := HB.out.below hb1
          have c1 := B1.cell
          have l1 := B1.lt
          simp only [Slts.cs, rI] at c1
          clear B1 cB lB
          simp only [rI]
          go_wp2_with fail
          go_ret
          exact ⟨rfl, (by repeat (first | (with_reducible exact grow_refl _) | (with_reducible assumption) | (with_reducible refine grow_alloc ?_ _) | (with_reducible refine grow_set ?_ (by first | exact Nat.le_refl _ | (simp; done) | (simp; omega) | omega) _) | (with_reducible refine grow_drewN ?_ _) | (with_reducible refine grow_drew ?_) | (with_reducible refine grow_step ?_ (by assumption)) | (with_reducible refine grow_base ?_ (by assumption))))⟩
    · cases f1
      · have hP : P = false := by rw [← HP.out]; simp [Slts.pick, Slts.safe, Slts.at_, Slt.trial]
        subst hP
        clear HP
        have cB := HB.out.cell
        have lB := HB.out.lt
        simp only [Slts.cs, rI] at cB
        go_enter Tryd.func55, Tryd.ntmps55
        go_wp2_with fail
        refine (safe_at g _ false _ HB.out rfl).mono ?_
        rintro e w1 ⟨rfl, hb1⟩
        have B1 := HB.out.below hb1
        have c1 := B1.cell
        have l1 := B1.lt
        simp only [Slts.cs, rI] at c1
        clear B1 cB lB
        simp only [rI]
        go_wp2_with fail
        go_ret
        exact ⟨rfl, (by repeat (first | (with_reducible exact grow_refl _) | (with_reducible assumption) | (with_reducible refine grow_alloc ?_ _) | (with_reducible refine grow_set ?_ (by first | exact Nat.le_refl _ | (simp; done) | (simp; omega) | omega) _) | (with_reducible refine grow_drewN ?_ _) | (with_reducible refine grow_drew ?_) | (with_reducible refine grow_step ?_ (by assumption)) | (with_reducible refine grow_base ?_ (by assumption))))⟩
      · cases g1
        · by_cases ht : 0 < t1
          · have hP : P = true := by rw [← HP.out]; simp [Slts.pick, Slts.safe, Slts.at_, Slt.trial, ht]
            subst hP
            clear HP
            have cB := HB.out.cell
            have lB := HB.out.lt
            simp only [Slts.cs, rI] at cB
            go_enter Tryd.func55, Tryd.ntmps55
            go_wp2_with fail
            refine (safe_at g _ false _ HB.out rfl).mono ?_
            rintro e w1 ⟨rfl, hb1⟩
            have B1 := HB.out.below hb1
            have c1 := B1.cell
            have l1 := B1.lt
            simp only [Slts.cs, rI] at c1
            clear B1 cB lB
            simp only [rI]
            go_wp2_with fail
            go_ret
            exact ⟨rfl, (by repeat (first | (with_reducible exact grow_refl _) | (with_reducible assumption) | (with_reducible refine grow_alloc ?_ _) | (with_reducible refine grow_set ?_ (by first | exact Nat.le_refl _ | (simp; done) | (simp; omega) | omega) _) | (with_reducible refine grow_drewN ?_ _) | (with_reducible refine grow_drew ?_) | (with_reducible refine grow_step ?_ (by assumption)) | (with_reducible refine grow_base ?_ (by assumption))))⟩
          · have hP : P = false := by rw [← HP.out]; simp [Slts.pick, Slts.safe, Slts.at_, Slt.trial, ht]
            subst hP
            clear HP
            have cB := HB.out.cell
            have lB := HB.out.lt
            simp only [Slts.cs, rI] at cB
            go_enter Tryd.func55, Tryd.ntmps55
            go_wp2_with fail
            refine (safe_at g _ false _ HB.out rfl).mono ?_
            rintro e w1 ⟨rfl, hb1⟩
            have B1 := HB.out.below hb1
            have c1 := B1.cell
            have l1 := B1.lt
            simp only [Slts.cs, rI] at c1
            clear B1 cB lB
            simp only [rI]
            go_wp2_with fail
            go_ret
            exact ⟨rfl, (by repeat (first | (with_reducible exact grow_refl _) | (with_reducible assumption) | (with_reducible refine grow_alloc ?_ _) | (with_reducible refine grow_set ?_ (by first | exact Nat.le_refl _ | (simp; done) | (simp; omega) | omega) _) | (with_reducible refine grow_drewN ?_ _) | (with_reducible refine grow_drew ?_) | (with_reducible refine grow_step ?_ (by assumption)) | (with_reducible refine grow_base ?_ (by assumption))))⟩
        · have hP : P = false := by rw [← HP.out]; simp [Slts.pick, Slts.safe, Slts.at_, Slt.trial]
          subst hP
          clear HP
          have cB := HB.out.cell
          have lB := HB.out.lt
          simp only [Slts.cs, rI] at cB
          go_enter Tryd.func55, Tryd.ntmps55
          go_wp2_with fail
          refine (safe_at g _ false _ HB.out rfl).mono ?_
          rintro e w1 ⟨rfl, hb1⟩
          have B1 := HB.out.below hb1
          have c1 := B1.cell
          have l1 := B1.lt
          simp only [Slts.cs, rI] at c1
          clear B1 cB lB
          simp only [rI]
          go_wp2_with fail
          go_ret
          exact ⟨rfl, (by repeat (first | (with_reducible exact grow_refl _) | (with_reducible assumption) | (with_reducible refine grow_alloc ?_ _) | (with_reducible refine grow_set ?_ (by first | exact Nat.le_refl _ | (simp; done) | (simp; omega) | omega) _) | (with_reducible refine grow_drewN ?_ _) | (with_reducible refine grow_drew ?_) | (with_reducible refine grow_step ?_ (by assumption)) | (with_reducible refine grow_base ?_ (by assumption))))⟩
  · cases g1
    · cases f1
      · have hP : P = false := by rw [← HP.out]; simp [Slts.pick, Slts.safe, Slts.at_, Slt.trial]
        subst hP
        clear HP
        have cB := HB.out.cell
        have lB := HB.out.lt
        simp only [Slts.cs, rI] at cB
        go_enter Tryd.func55, Tryd.ntmps55
        go_wp2_with fail
        refine (safe_at g _ false _ HB.out rfl).mono ?_
        rintro e w1 ⟨rfl, hb1⟩
        have B1 := HB.out.below hb1
        have c1 := B1.cell
        have l1 := B1.lt
        simp only [Slts.cs, rI] at c1
        clear B1 cB lB
        simp only [rI]
        go_wp2_with fail
        go_ret
        exact ⟨rfl, (by repeat (first | (with_reducible exact grow_refl _) | (with_reducible assumption) | (with_reducible refine grow_alloc ?_ _) | (with_reducible refine grow_set ?_ (by first | exact Nat.le_refl _ | (simp; done) | (simp; omega) | omega) _) | (with_reducible refine grow_drewN ?_ _) | (with_reducible refine grow_drew ?_) | (with_reducible refine grow_step ?_ (by assumption)) | (with_reducible refine grow_base ?_ (by assumption))))⟩
      · by_cases ht : 0 < t1
        · have hP : P = true := by rw [← HP.out]; simp [Slts.pick, Slts.safe, Slts.at_, Slt.trial, ht]
          subst hP
          clear HP
          have cB := HB.out.cell
          have lB := HB.out.lt
          simp only [Slts.cs, rI] at cB
          go_enter Tryd.func55, Tryd.ntmps55
          go_wp2_with fail
          refine (safe_at g _ false _ HB.out rfl).mono ?_
          rintro e w1 ⟨rfl, hb1⟩
          have B1 := HB.out.below hb1
          have c1 := B1.cell
          have l1 := B1.lt
          simp only [Slts.cs, rI] at c1
          clear B1 cB lB
          simp only [rI]
          go_wp2_with fail
          go_ret
          exact ⟨rfl, (by repeat (first | (with_reducible exact grow_refl _) | (with_reducible assumption) | (with_reducible refine grow_alloc ?_ _) | (with_reducible refine grow_set ?_ (by first | exact Nat.le_refl _ | (simp; done) | (simp; omega) | omega) _) | (with_reducible refine grow_drewN ?_ _) | (with_reducible refine grow_drew ?_) | (with_reducible refine grow_step ?_ (by assumption)) | (with_reducible refine grow_base ?_ (by assumption))))⟩
        · have hP : P = false := by rw [← HP.out]; simp [Slts.pick, Slts.safe, Slts.at_, Slt.trial, ht]
          subst hP
          clear HP
          have cB := HB.out.cell
          have lB := HB.out.lt
          simp only [Slts.cs, rI] at cB
          go_enter Tryd.func55, Tryd.ntmps55
          go_wp2_with fail
          refine (safe_at g _ false _ HB.out rfl).mono ?_
          rintro e w1 ⟨rfl, hb1⟩
          have B1 := HB.out.below hb1
          have c1 := B1.cell
          have l1 := B1.lt
          simp only [Slts.cs, rI] at c1
          clear B1 cB lB
          simp only [rI]
          go_wp2_with fail
          go_ret
          exact ⟨rfl, (by repeat (first | (with_reducible exact grow_refl _) | (with_reducible assumption) | (with_reducible refine grow_alloc ?_ _) | (with_reducible refine grow_set ?_ (by first | exact Nat.le_refl _ | (simp; done) | (simp; omega) | omega) _) | (with_reducible refine grow_drewN ?_ _) | (with_reducible refine grow_drew ?_) | (with_reducible refine grow_step ?_ (by assumption)) | (with_reducible refine grow_base ?_ (by assumption))))⟩
    · cases f0
      · have hP : P = true := by rw [← HP.out]; simp [Slts.pick, Slts.safe, Slts.at_, Slt.trial]
        subst hP
        clear HP
        have cB := HB.out.cell
        have lB := HB.out.lt
        simp only [Slts.cs, rI] at cB
        go_enter Tryd.func55, Tryd.ntmps55
        go_wp2_with fail
        refine (safe_at g _ true _ HB.out rfl).mono ?_
        rintro e w1 ⟨rfl, hb1⟩
        have B1 := HB.out.below hb1
        have c1 := B1.cell
        have l1 := B1.lt
        simp only [Slts.cs, rI] at c1
        clear B1 cB lB
        simp only [rI]
        go_wp2_with fail
        go_ret
        exact ⟨rfl, (by repeat (first | (with_reducible exact grow_refl _) | (with_reducible assumption) | (with_reducible refine grow_alloc ?_ _) | (with_reducible refine grow_set ?_ (by first | exact Nat.le_refl _ | (simp; done) | (simp; omega) | omega) _) | (with_reducible refine grow_drewN ?_ _) | (with_reducible refine grow_drew ?_) | (with_reducible refine grow_step ?_ (by assumption)) | (with_reducible refine grow_base ?_ (by assumption))))⟩
      · cases g0
        · by_cases ht : 0 < t0
          · have hP : P = false := by rw [← HP.out]; simp [Slts.pick, Slts.safe, Slts.at_, Slt.trial, ht]
            subst hP
            clear HP
            have cB := HB.out.cell
            have lB := HB.out.lt
            simp only [Slts.cs, rI] at cB
            go_enter Tryd.func55, Tryd.ntmps55
            go_wp2_with fail
            refine (safe_at g _ true _ HB.out rfl).mono ?_
            rintro e w1 ⟨rfl, hb1⟩
            have B1 := HB.out.below hb1
            have c1 := B1.cell
            have l1 := B1.lt
            simp only [Slts.cs, rI] at c1
            clear B1 cB lB
            simp only [rI]
            go_wp2_with fail
            go_ret
            exact ⟨rfl, (by repeat (first | (with_reducible exact grow_refl _) | (with_reducible assumption) | (with_reducible refine grow_alloc ?_ _) | (with_reducible refine grow_set ?_ (by first | exact Nat.le_refl _ | (simp; done) | (simp; omega) | omega) _) | (with_reducible refine grow_drewN ?_ _) | (with_reducible refine grow_drew ?_) | (with_reducible refine grow_step ?_ (by assumption)) | (with_reducible refine grow_base ?_ (by assumption))))⟩
          · have hP : P = true := by rw [← HP.out]; simp [Slts.pick, Slts.safe, Slts.at_, Slt.trial, ht]
            subst hP
            clear HP
            have cB := HB.out.cell
            have lB := HB.out.lt
            simp only [Slts.cs, rI] at cB
            go_enter Tryd.func55, Tryd.ntmps55
            go_wp2_with fail
            refine (safe_at g _ true _ HB.out rfl).mono ?_
            rintro e w1 ⟨rfl, hb1⟩
            have B1 := HB.out.below hb1
            have c1 := B1.cell
            have l1 := B1.lt
            simp only [Slts.cs, rI] at c1
            clear B1 cB lB
            simp only [rI]
            go_wp2_with fail
            go_ret
            exact ⟨rfl, (by repeat (first | (with_reducible exact grow_refl _) | (with_reducible assumption) | (with_reducible refine grow_alloc ?_ _) | (with_reducible refine grow_set ?_ (by first | exact Nat.le_refl _ | (simp; done) | (simp; omega) | omega) _) | (with_reducible refine grow_drewN ?_ _) | (with_reducible refine grow_drew ?_) | (with_reducible refine grow_step ?_ (by assumption)) | (with_reducible refine grow_base ?_ (by assumption))))⟩
        · have hP : P = true := by rw [← HP.out]; simp [Slts.pick, Slts.safe, Slts.at_, Slt.trial]
          subst hP
          clear HP
          have cB := HB.out.cell
          have lB := HB.out.lt
          simp only [Slts.cs, rI] at cB
          go_enter Tryd.func55, Tryd.ntmps55
          go_wp2_with fail
          refine (safe_at g _ true _ HB.out rfl).mono ?_
          rintro e w1 ⟨rfl, hb1⟩
          have B1 := HB.out.below hb1
          have c1 := B1.cell
          have l1 := B1.lt
          simp only [Slts.cs, rI] at c1
          clear B1 cB lB
          simp only [rI]
          go_wp2_with fail
          go_ret
          exact ⟨rfl, (by repeat (first | (with_reducible exact grow_refl _) | (with_reducible assumption) | (with_reducible refine grow_alloc ?_ _) | (with_reducible refine grow_set ?_ (by first | exact Nat.le_refl _ | (simp; done) | (simp; omega) | omega) _) | (with_reducible refine grow_drewN ?_ _) | (with_reducible refine grow_drew ?_) | (with_reducible refine grow_step ?_ (by assumption)) | (with_reducible refine grow_base ?_ (by assumption))))⟩

theorem pick_at (g : Nat) (s : Slts) (b : Bool) (w : World) (hB : Box w g 148 s.cs) (hb : s.pick = b) :
    Calls Tryd.prog 55 #[.pointer (some ⟨g, 0, none⟩)] w fun e w' => e = .returned (.int .i64 (rI b)) ∧ Below w.heap.size w w' := hb ▸ pick_any g s w hB

set_option maxHeartbeats 2000000 in
theorem at_any (g : Nat) (s : Slts) (r : Bool) (w : World) (hB : Box w g 148 s.cs) :
    Calls Tryd.prog 109 #[.pointer (some ⟨g, 0, none⟩), .int .i64 (rI r)] w fun e w' => e = .returned (.tuple #[.agg (s.at_ r).cs, errV 0]) ∧ Below w.heap.size w w' := by
  obtain ⟨⟨n0, v0, c0, p0, a0, f0, t0, g0⟩, ⟨n1, v1, c1, p1, a1, f1, t1, g1⟩, q⟩ := s
  have cB := hB.cell
  have lB := hB.lt
  have Z := Box.new w 145 noSlt.cs
  simp only [Slts.cs] at cB
  simp only [noSlt, Slt.cs] at Z
  clear hB
  cases r
  · simp only [rI]
    go_enter Tryd.func109, Tryd.ntmps109
    go_wp2_with fail
    exact bodyPost_ret (v := .tuple #[.agg #[.string n0, .int .i64 v0, .string c0, .int .i64 p0, .int .i64 a0, .bool f0, .int .i64 t0, .bool g0], errV 0]) (ret_cell_tmp Tryd.results109 rfl (Box.new w 145 #[.string n0, .int .i64 v0, .string c0, .int .i64 p0, .int .i64 a0, .bool f0, .int .i64 t0, .bool g0]) Tryd.underlying145 rfl (by kernel_rfl)) rfl ⟨rfl, (by repeat (first | (with_reducible exact grow_refl _) | (with_reducible assumption) | (with_reducible refine grow_alloc ?_ _) | (with_reducible refine grow_set ?_ (by first | exact Nat.le_refl _ | (simp; done) | (simp; omega) | omega) _) | (with_reducible refine grow_drewN ?_ _) | (with_reducible refine grow_drew ?_) | (with_reducible refine grow_step ?_ (by assumption)) | (with_reducible refine grow_base ?_ (by assumption))))⟩
  · simp only [rI]
    go_enter Tryd.func109, Tryd.ntmps109
    go_wp2_with fail
    exact bodyPost_ret (v := .tuple #[.agg #[.string n1, .int .i64 v1, .string c1, .int .i64 p1, .int .i64 a1, .bool f1, .int .i64 t1, .bool g1], errV 0]) (ret_cell_tmp Tryd.results109 rfl (Box.new w 145 #[.string n1, .int .i64 v1, .string c1, .int .i64 p1, .int .i64 a1, .bool f1, .int .i64 t1, .bool g1]) Tryd.underlying145 rfl (by kernel_rfl)) rfl ⟨rfl, (by repeat (first | (with_reducible exact grow_refl _) | (with_reducible assumption) | (with_reducible refine grow_alloc ?_ _) | (with_reducible refine grow_set ?_ (by first | exact Nat.le_refl _ | (simp; done) | (simp; omega) | omega) _) | (with_reducible refine grow_drewN ?_ _) | (with_reducible refine grow_drew ?_) | (with_reducible refine grow_step ?_ (by assumption)) | (with_reducible refine grow_base ?_ (by assumption))))⟩

set_option maxHeartbeats 1000000 in
theorem good_no (g : Nat) (s : Slts) (w : World) (hB : Box w g 148 s.cs) (hg : (s.at_ s.r).g = true) :
    Calls Tryd.prog 59 #[.pointer (some ⟨g, 0, none⟩)] w fun e w' => e = .returned (errV 7) ∧ Below w.heap.size w w' := by
  obtain ⟨⟨n0, v0, c0, p0, a0, f0, t0, g0⟩, ⟨n1, v1, c1, p1, a1, f1, t1, g1⟩, r⟩ := s
  have cB := hB.cell
  have lB := hB.lt
  clear hB
  cases r
  · obtain rfl : g0 = true := hg
    simp only [Slts.cs, rI] at cB
    go_enter Tryd.func59, Tryd.ntmps59
    go_wp2_with fail
    go_quiet (fail)
    go_wp2_with fail
    go_ret
    exact ⟨rfl, (by repeat (first | (with_reducible exact grow_refl _) | (with_reducible assumption) | (with_reducible refine grow_alloc ?_ _) | (with_reducible refine grow_set ?_ (by first | exact Nat.le_refl _ | (simp; done) | (simp; omega) | omega) _) | (with_reducible refine grow_drewN ?_ _) | (with_reducible refine grow_drew ?_) | (with_reducible refine grow_step ?_ (by assumption)) | (with_reducible refine grow_base ?_ (by assumption))))⟩
  · obtain rfl : g1 = true := hg
    simp only [Slts.cs, rI] at cB
    go_enter Tryd.func59, Tryd.ntmps59
    go_wp2_with fail
    go_quiet (fail)
    go_wp2_with fail
    go_ret
    exact ⟨rfl, (by repeat (first | (with_reducible exact grow_refl _) | (with_reducible assumption) | (with_reducible refine grow_alloc ?_ _) | (with_reducible refine grow_set ?_ (by first | exact Nat.le_refl _ | (simp; done) | (simp; omega) | omega) _) | (with_reducible refine grow_drewN ?_ _) | (with_reducible refine grow_drew ?_) | (with_reducible refine grow_step ?_ (by assumption)) | (with_reducible refine grow_base ?_ (by assumption))))⟩

set_option maxHeartbeats 1000000 in
theorem good_yes (g : Nat) (s : Slts) (w : World) (hB : Box w g 148 s.cs) (hg : (s.at_ s.r).g = false) :
    Calls Tryd.prog 59 #[.pointer (some ⟨g, 0, none⟩)] w fun e w' => e = .returned (errV 0) ∧ Box w' g 148 s.good.cs ∧ But (fun k => k = g) w w' := by
  obtain ⟨⟨n0, v0, c0, p0, a0, f0, t0, g0⟩, ⟨n1, v1, c1, p1, a1, f1, t1, g1⟩, r⟩ := s
  have HB := Lib.hid hB
  have cB := hB.cell
  have lB := hB.lt
  have fB := hB.frozen
  clear hB
  cases r
  · obtain rfl : g0 = false := hg
    simp only [Slts.cs, rI] at cB
    go_enter Tryd.func59, Tryd.ntmps59
    go_wp2_with fail
    go_quiet (fail)
    go_wp2_with fail
    go_region
    go_wp2_with fail
    go_region
    go_wp2_with fail
    go_region
    go_wp2_with fail
    go_ret
    refine ⟨rfl, ?_, ?_⟩
    · first | refine Box.cast ((Box.put8 (((HB.out.drewN_ _).set_ 7 _).set_ 6 _) 8 9 10 11 12 13 14 15 _ _ _ _ _ _ _ _).drew_).drew_ ?_ | refine Box.cast (Box.put8 (((HB.out.drewN_ _).set_ 7 _).set_ 6 _) 8 9 10 11 12 13 14 15 _ _ _ _ _ _ _ _) ?_
      simp [Slts.cs, Slts.good, Slts.set_, Slts.at_, Slt.good, noSlt, rI, Slts.put]
    · first | exact (But.put8 ((((But.refl (fun k => k = g) w).drewN _).setCell (Or.inl rfl) _).setCell (Or.inl rfl) _) rfl).drew.drew | exact But.put8 ((((But.refl (fun k => k = g) w).drewN _).setCell (Or.inl rfl) _).setCell (Or.inl rfl) _) rfl
  · obtain rfl : g1 = false := hg
    simp only [Slts.cs, rI] at cB
    go_enter Tryd.func59, Tryd.ntmps59
    go_wp2_with fail
    go_quiet (fail)
    go_wp2_with fail
    go_region
    go_wp2_with fail
    go_region
    go_wp2_with fail
    go_region
    go_wp2_with fail
    go_ret
    refine ⟨rfl, ?_, ?_⟩
    · first | refine Box.cast ((Box.put8 (((HB.out.drewN_ _).set_ 15 _).set_ 14 _) 0 1 2 3 4 5 6 7 _ _ _ _ _ _ _ _).drew_).drew_ ?_ | refine Box.cast (Box.put8 (((HB.out.drewN_ _).set_ 15 _).set_ 14 _) 0 1 2 3 4 5 6 7 _ _ _ _ _ _ _ _) ?_
      simp [Slts.cs, Slts.good, Slts.set_, Slts.at_, Slt.good, noSlt, rI, Slts.put]
    · first | exact (But.put8 ((((But.refl (fun k => k = g) w).drewN _).setCell (Or.inl rfl) _).setCell (Or.inl rfl) _) rfl).drew.drew | exact But.put8 ((((But.refl (fun k => k = g) w).drewN _).setCell (Or.inl rfl) _).setCell (Or.inl rfl) _) rfl

set_option maxHeartbeats 1000000 in
theorem put_bad (g : Nat) (n : ByteArray) (v : Int) (c : ByteArray) (p a : Int) (w : World) (hn : n.size ≤ 9000000000000000000) (hc : c.size ≤ 9000000000000000000) (hi : imgE n v c ≠ 0) :
    Calls Tryd.prog 94 #[.pointer (some ⟨g, 0, none⟩), .agg #[.string n, .int .i64 v, .string c, .int .i64 p, .int .i64 a]] w fun e w' => e = .returned (errV (imgE n v c)) ∧ Below w.heap.size w w' := by
  have en := fun k w => err_neq k w
  have gn := fun o k w => err_guard_neq o k w
  obtain ⟨E, hE⟩ : ∃ E, imgE n v c = E := ⟨_, rfl⟩
  rw [hE] at hi ⊢
  have t : (E != 0) = true := by simp [hi]
  have HE := Lib.hid hE
  clear hE hi
  go_enter Tryd.func94, Tryd.ntmps94
  go_wp2_with fail
  refine (imgCheck_any n v c _ hn hc).mono ?_
  rintro e w1 ⟨rfl, hb1⟩
  rw [HE.out]
  go_wp2_with fail
  go_ret
  exact ⟨rfl, (by repeat (first | (with_reducible exact grow_refl _) | (with_reducible assumption) | (with_reducible refine grow_alloc ?_ _) | (with_reducible refine grow_set ?_ (by first | exact Nat.le_refl _ | (simp; done) | (simp; omega) | omega) _) | (with_reducible refine grow_drewN ?_ _) | (with_reducible refine grow_drew ?_) | (with_reducible refine grow_step ?_ (by assumption)) | (with_reducible refine grow_base ?_ (by assumption))))⟩

set_option maxHeartbeats 1000000 in
theorem put_no (g : Nat) (s : Slts) (n : ByteArray) (v : Int) (c : ByteArray) (p a : Int) (w : World) (hB : Box w g 148 s.cs) (hn : n.size ≤ 9000000000000000000) (hc : c.size ≤ 9000000000000000000) (hi : imgE n v c = 0) (hg : (s.at_ s.r).g = false) :
    Calls Tryd.prog 94 #[.pointer (some ⟨g, 0, none⟩), .agg #[.string n, .int .i64 v, .string c, .int .i64 p, .int .i64 a]] w fun e w' => e = .returned (errV 6) ∧ Below w.heap.size w w' := by
  have en := fun k w => err_neq k w
  have gn := fun o k w => err_guard_neq o k w
  obtain ⟨⟨n0, v0, c0, p0, a0, f0, t0, g0⟩, ⟨n1, v1, c1, p1, a1, f1, t1, g1⟩, r⟩ := s
  have HI := Lib.hid hi
  have HB := Lib.hid (hB.alloc_ (.cells #[.string n, .int .i64 v, .string c, .int .i64 p, .int .i64 a] 34))
  clear hi hB
  cases r
  · obtain rfl : g0 = false := hg
    go_enter Tryd.func94, Tryd.ntmps94
    go_wp2_with fail
    refine (imgCheck_any n v c _ hn hc).mono ?_
    rintro e w1 ⟨rfl, hb1⟩
    rw [HI.out]
    have B1 := HB.out.below hb1
    have cB := B1.cell
    have lB := B1.lt
    simp only [Slts.cs, rI] at cB
    go_wp2_with fail
    go_quiet (fail)
    go_wp2_with fail
    go_ret
    exact ⟨rfl, (by repeat (first | (with_reducible exact grow_refl _) | (with_reducible assumption) | (with_reducible refine grow_alloc ?_ _) | (with_reducible refine grow_set ?_ (by first | exact Nat.le_refl _ | (simp; done) | (simp; omega) | omega) _) | (with_reducible refine grow_drewN ?_ _) | (with_reducible refine grow_drew ?_) | (with_reducible refine grow_step ?_ (by assumption)) | (with_reducible refine grow_base ?_ (by assumption))))⟩
  · obtain rfl : g1 = false := hg
    go_enter Tryd.func94, Tryd.ntmps94
    go_wp2_with fail
    refine (imgCheck_any n v c _ hn hc).mono ?_
    rintro e w1 ⟨rfl, hb1⟩
    rw [HI.out]
    have B1 := HB.out.below hb1
    have cB := B1.cell
    have lB := B1.lt
    simp only [Slts.cs, rI] at cB
    go_wp2_with fail
    go_quiet (fail)
    go_wp2_with fail
    go_ret
    exact ⟨rfl, (by repeat (first | (with_reducible exact grow_refl _) | (with_reducible assumption) | (with_reducible refine grow_alloc ?_ _) | (with_reducible refine grow_set ?_ (by first | exact Nat.le_refl _ | (simp; done) | (simp; omega) | omega) _) | (with_reducible refine grow_drewN ?_ _) | (with_reducible refine grow_drew ?_) | (with_reducible refine grow_step ?_ (by assumption)) | (with_reducible refine grow_base ?_ (by assumption))))⟩

set_option maxHeartbeats 1000000 in
theorem put_yes (g : Nat) (s : Slts) (n : ByteArray) (v : Int) (c : ByteArray) (p a : Int) (w : World) (hB : Box w g 148 s.cs) (hn : n.size ≤ 9000000000000000000) (hc : c.size ≤ 9000000000000000000) (hi : imgE n v c = 0) (hg : (s.at_ s.r).g = true) :
    Calls Tryd.prog 94 #[.pointer (some ⟨g, 0, none⟩), .agg #[.string n, .int .i64 v, .string c, .int .i64 p, .int .i64 a]] w fun e w' => e = .returned (errV 0) ∧ Box w' g 148 (s.put n v c p a).cs ∧ But (fun k => k = g) w w' := by
  have en := fun k w => err_neq k w
  have gn := fun o k w => err_guard_neq o k w
  obtain ⟨⟨n0, v0, c0, p0, a0, f0, t0, g0⟩, ⟨n1, v1, c1, p1, a1, f1, t1, g1⟩, r⟩ := s
  have HI := Lib.hid hi
  have HB0 := Lib.hid (hB.alloc_ (.cells #[.string n, .int .i64 v, .string c, .int .i64 p, .int .i64 a] 34))
  have HS := Lib.hid (Box.new w 34 #[.string n, .int .i64 v, .string c, .int .i64 p, .int .i64 a])
  have hgl := hB.lt
  clear hi hB
  cases r
  · obtain rfl : g0 = true := hg
    go_enter Tryd.func94, Tryd.ntmps94
    go_wp2_with fail
    refine (imgCheck_any n v c _ hn hc).mono ?_
    rintro e w1 ⟨rfl, hb1⟩
    rw [HI.out]
    have HB := Lib.hid (HB0.out.below hb1)
    have cB := HB.out.cell
    have lB := HB.out.lt
    have fB := HB.out.frozen
    have S1 := HS.out.below hb1
    have cS := S1.cell
    have lS := S1.lt
    have hb2 : Below w.heap.size w w1 := grow_step (grow_alloc (grow_refl _) _) hb1
    have HK : Hid (But (fun k => k = g) w w1) := Lib.hid (below_but hb2 _)
    clear S1 HB0 HS hb1 hb2
    simp only [Slts.cs, rI] at cB
    go_wp2_with fail
    go_quiet (fail)
    go_wp2_with fail
    go_region
    go_wp2_with fail
    go_ret
    refine ⟨rfl, ?_, ?_⟩
    · first | refine Box.cast (Box.put8 (HB.out.drewN_ _) 8 9 10 11 12 13 14 15 _ _ _ _ _ _ _ _) ?_ | refine Box.cast (Box.put8 (HB.out.drewN_ _) 8 9 10 11 12 13 14 15 _ _ _ _ _ _ _ _).drew_ ?_
      simp [Slts.cs, Slts.good, Slts.set_, Slts.at_, Slt.good, noSlt, rI, Slts.put]
    · first | exact But.put8 (HK.out.drewN _) rfl | exact (But.put8 (HK.out.drewN _) rfl).drew

  · obtain rfl : g1 = true := hg
    go_enter Tryd.func94, Tryd.ntmps94
    go_wp2_with fail
    refine (imgCheck_any n v c _ hn hc).mono ?_
    rintro e w1 ⟨rfl, hb1⟩
    rw [HI.out]
    have HB := Lib.hid (HB0.out.below hb1)
    have cB := HB.out.cell
    have lB := HB.out.lt
    have fB := HB.out.frozen
    have S1 := HS.out.below hb1
    have cS := S1.cell
    have lS := S1.lt
    have hb2 : Below w.heap.size w w1 := grow_step (grow_alloc (grow_refl _) _) hb1
    have HK : Hid (But (fun k => k = g) w w1) := Lib.hid (below_but hb2 _)
    clear S1 HB0 HS hb1 hb2
    simp only [Slts.cs, rI] at cB
    go_wp2_with fail
    go_quiet (fail)
    go_wp2_with fail
    go_region
    go_wp2_with fail
    go_ret
    refine ⟨rfl, ?_, ?_⟩
    · first | refine Box.cast (Box.put8 (HB.out.drewN_ _) 0 1 2 3 4 5 6 7 _ _ _ _ _ _ _ _) ?_ | refine Box.cast (Box.put8 (HB.out.drewN_ _) 0 1 2 3 4 5 6 7 _ _ _ _ _ _ _ _).drew_ ?_
      simp [Slts.cs, Slts.good, Slts.set_, Slts.at_, Slt.good, noSlt, rI, Slts.put]
    · first | exact But.put8 (HK.out.drewN _) rfl | exact (But.put8 (HK.out.drewN _) rfl).drew


end Go.Proofs.YtdedllfgeekogaaDoor

namespace Go.Proofs.YtdedllfgeekogaaDoor
open Go.RowKit
set_option maxRecDepth 100000
set_option linter.unusedSimpArgs false


set_option maxHeartbeats 2000000 in
theorem start_at (g : Nat) (s : Slts) (P : Bool) (w : World) (hB : Box w g 148 s.cs) (hP : s.pick = P) (ht : 0 ≤ (s.at_ P).t ∧ (s.at_ P).t ≤ 1000) :
    Calls Tryd.prog 57 #[.pointer (some ⟨g, 0, none⟩)] w fun e w' => e = .returned (.agg (s.at_ P).im) ∧ Box w' g 148 (Slts.set_ ⟨s.x, s.y, P⟩ P (s.at_ P).tried).cs ∧ But (fun k => k = g) w w' := by
  obtain ⟨⟨n0, v0, c0, p0, a0, f0, t0, g0⟩, ⟨n1, v1, c1, p1, a1, f1, t1, g1⟩, r⟩ := s
  have HP := Lib.hid hP
  have HB0 := Lib.hid (hB.alloc_ (.cells #[.string ⟨#[]⟩, .int .i64 0, .string ⟨#[]⟩, .int .i64 0, .int .i64 0] 34))
  have HR0 := Lib.hid (Box.new w 34 #[.string ⟨#[]⟩, .int .i64 0, .string ⟨#[]⟩, .int .i64 0, .int .i64 0])
  have hgl := hB.lt
  have HNE : Hid (g ≠ w.heap.size) := Lib.hid (by omega)
  have HNE2 : Hid (w.heap.size ≠ g) := Lib.hid (by omega)
  clear hP hB
  cases P
  · cases g0
    · obtain ⟨ht1, ht2⟩ : 0 ≤ t0 ∧ t0 ≤ 1000 := ht
      go_enter Tryd.func57, Tryd.ntmps57
      go_wp2_with fail
      refine (pick_at g _ false _ HB0.out HP.out).mono ?_
      rintro e w1 ⟨rfl, hb1⟩
      have HB := Lib.hid (HB0.out.below hb1)
      have HR := Lib.hid (HR0.out.below hb1)
      have hb2 : Below w.heap.size w w1 := grow_step (grow_alloc (grow_refl _) _) hb1
      have HK : Hid (But (fun k => k = g) w w1) := Lib.hid (below_but hb2 _)
      have cB := HB.out.cell
      have lB := HB.out.lt
      have fB := HB.out.frozen
      have cR := HR.out.cell
      have lR := HR.out.lt
      have fR := HR.out.frozen
      simp only [Slts.cs, rI] at cB
      clear hb1 hb2
      simp only [rI]
      go_wp2_with fail
      go_quiet (fail)
      go_wp2_with fail
      go_region
      go_wp2_with fail
      refine bodyPost_ret (v := .agg #[.string n0, .int .i64 v0, .string c0, .int .i64 p0, .int .i64 a0]) (ret_cell Tryd.results57 rfl (Box.drew_ (Box.fill5 (((HR.out.far (p := ⟨g, 16, none⟩) HNE2.out _).drewN_ _).far (p := ⟨g, 6, none⟩) HNE2.out _) _ _ _ _ _)) Tryd.underlying34 rfl (by kernel_rfl)) rfl ⟨rfl, ?_, ?_⟩
      · refine Box.cast (((((((((HB.out.set_ 16 _).drewN_ _).set_ 6 _).far (p := ⟨w.heap.size, 0, none⟩) HNE.out _).far (p := ⟨w.heap.size, 1, none⟩) HNE.out _).far (p := ⟨w.heap.size, 2, none⟩) HNE.out _).far (p := ⟨w.heap.size, 3, none⟩) HNE.out _).far (p := ⟨w.heap.size, 4, none⟩) HNE.out _)).drew_ ?_
        simp [Slts.cs, Slts.set_, Slts.at_, Slt.tried, rI]
      · exact (((((((((HK.out.setCell (Or.inl rfl) _).drewN _).setCell (Or.inl rfl) _).setCell (Or.inr (Nat.le_refl _)) _).setCell (Or.inr (Nat.le_refl _)) _).setCell (Or.inr (Nat.le_refl _)) _).setCell (Or.inr (Nat.le_refl _)) _).setCell (Or.inr (Nat.le_refl _)) _)).drew
    · obtain ⟨ht1, ht2⟩ : 0 ≤ t0 ∧ t0 ≤ 1000 := ht
      go_enter Tryd.func57, Tryd.ntmps57
      go_wp2_with fail
      refine (pick_at g _ false _ HB0.out HP.out).mono ?_
      rintro e w1 ⟨rfl, hb1⟩
      have HB := Lib.hid (HB0.out.below hb1)
      have HR := Lib.hid (HR0.out.below hb1)
      have hb2 : Below w.heap.size w w1 := grow_step (grow_alloc (grow_refl _) _) hb1
      have HK : Hid (But (fun k => k = g) w w1) := Lib.hid (below_but hb2 _)
      have cB := HB.out.cell
      have lB := HB.out.lt
      have fB := HB.out.frozen
      have cR := HR.out.cell
      have lR := HR.out.lt
      have fR := HR.out.frozen
      simp only [Slts.cs, rI] at cB
      clear hb1 hb2
      simp only [rI]
      go_wp2_with fail
      go_quiet (fail)
      go_wp2_with fail
      go_region
      go_wp2_with fail
      refine bodyPost_ret (v := .agg #[.string n0, .int .i64 v0, .string c0, .int .i64 p0, .int .i64 a0]) (ret_cell Tryd.results57 rfl (Box.fill5 ((HR.out.far (p := ⟨g, 16, none⟩) HNE2.out _).drewN_ _) _ _ _ _ _) Tryd.underlying34 rfl (by kernel_rfl)) rfl ⟨rfl, ?_, ?_⟩
      · refine Box.cast ((((((((HB.out.set_ 16 _).drewN_ _).far (p := ⟨w.heap.size, 0, none⟩) HNE.out _).far (p := ⟨w.heap.size, 1, none⟩) HNE.out _).far (p := ⟨w.heap.size, 2, none⟩) HNE.out _).far (p := ⟨w.heap.size, 3, none⟩) HNE.out _).far (p := ⟨w.heap.size, 4, none⟩) HNE.out _)) ?_
        simp [Slts.cs, Slts.set_, Slts.at_, Slt.tried, rI]
      · exact ((((((((HK.out.setCell (Or.inl rfl) _).drewN _).setCell (Or.inr (Nat.le_refl _)) _).setCell (Or.inr (Nat.le_refl _)) _).setCell (Or.inr (Nat.le_refl _)) _).setCell (Or.inr (Nat.le_refl _)) _).setCell (Or.inr (Nat.le_refl _)) _))
  · cases g1
    · obtain ⟨ht1, ht2⟩ : 0 ≤ t1 ∧ t1 ≤ 1000 := ht
      go_enter Tryd.func57, Tryd.ntmps57
      go_wp2_with fail
      refine (pick_at g _ true _ HB0.out HP.out).mono ?_
      rintro e w1 ⟨rfl, hb1⟩
      have HB := Lib.hid (HB0.out.below hb1)
      have HR := Lib.hid (HR0.out.below hb1)
      have hb2 : Below w.heap.size w w1 := grow_step (grow_alloc (grow_refl _) _) hb1
      have HK : Hid (But (fun k => k = g) w w1) := Lib.hid (below_but hb2 _)
      have cB := HB.out.cell
      have lB := HB.out.lt
      have fB := HB.out.frozen
      have cR := HR.out.cell
      have lR := HR.out.lt
      have fR := HR.out.frozen
      simp only [Slts.cs, rI] at cB
      clear hb1 hb2
      simp only [rI]
      go_wp2_with fail
      go_quiet (fail)
      go_wp2_with fail
      go_region
      go_wp2_with fail
      refine bodyPost_ret (v := .agg #[.string n1, .int .i64 v1, .string c1, .int .i64 p1, .int .i64 a1]) (ret_cell Tryd.results57 rfl (Box.drew_ (Box.fill5 (((HR.out.far (p := ⟨g, 16, none⟩) HNE2.out _).drewN_ _).far (p := ⟨g, 14, none⟩) HNE2.out _) _ _ _ _ _)) Tryd.underlying34 rfl (by kernel_rfl)) rfl ⟨rfl, ?_, ?_⟩
      · refine Box.cast (((((((((HB.out.set_ 16 _).drewN_ _).set_ 14 _).far (p := ⟨w.heap.size, 0, none⟩) HNE.out _).far (p := ⟨w.heap.size, 1, none⟩) HNE.out _).far (p := ⟨w.heap.size, 2, none⟩) HNE.out _).far (p := ⟨w.heap.size, 3, none⟩) HNE.out _).far (p := ⟨w.heap.size, 4, none⟩) HNE.out _)).drew_ ?_
        simp [Slts.cs, Slts.set_, Slts.at_, Slt.tried, rI]
      · exact (((((((((HK.out.setCell (Or.inl rfl) _).drewN _).setCell (Or.inl rfl) _).setCell (Or.inr (Nat.le_refl _)) _).setCell (Or.inr (Nat.le_refl _)) _).setCell (Or.inr (Nat.le_refl _)) _).setCell (Or.inr (Nat.le_refl _)) _).setCell (Or.inr (Nat.le_refl _)) _)).drew
    · obtain ⟨ht1, ht2⟩ : 0 ≤ t1 ∧ t1 ≤ 1000 := ht
      go_enter Tryd.func57, Tryd.ntmps57
      go_wp2_with fail
      refine (pick_at g _ true _ HB0.out HP.out).mono ?_
      rintro e w1 ⟨rfl, hb1⟩
      have HB := Lib.hid (HB0.out.below hb1)
      have HR := Lib.hid (HR0.out.below hb1)
      have hb2 : Below w.heap.size w w1 := grow_step (grow_alloc (grow_refl _) _) hb1
      have HK : Hid (But (fun k => k = g) w w1) := Lib.hid (below_but hb2 _)
      have cB := HB.out.cell
      have lB := HB.out.lt
      have fB := HB.out.frozen
      have cR := HR.out.cell
      have lR := HR.out.lt
      have fR := HR.out.frozen
      simp only [Slts.cs, rI] at cB
      clear hb1 hb2
      simp only [rI]
      go_wp2_with fail
      go_quiet (fail)
      go_wp2_with fail
      go_region
      go_wp2_with fail
      refine bodyPost_ret (v := .agg #[.string n1, .int .i64 v1, .string c1, .int .i64 p1, .int .i64 a1]) (ret_cell Tryd.results57 rfl (Box.fill5 ((HR.out.far (p := ⟨g, 16, none⟩) HNE2.out _).drewN_ _) _ _ _ _ _) Tryd.underlying34 rfl (by kernel_rfl)) rfl ⟨rfl, ?_, ?_⟩
      · refine Box.cast ((((((((HB.out.set_ 16 _).drewN_ _).far (p := ⟨w.heap.size, 0, none⟩) HNE.out _).far (p := ⟨w.heap.size, 1, none⟩) HNE.out _).far (p := ⟨w.heap.size, 2, none⟩) HNE.out _).far (p := ⟨w.heap.size, 3, none⟩) HNE.out _).far (p := ⟨w.heap.size, 4, none⟩) HNE.out _)) ?_
        simp [Slts.cs, Slts.set_, Slts.at_, Slt.tried, rI]
      · exact ((((((((HK.out.setCell (Or.inl rfl) _).drewN _).setCell (Or.inr (Nat.le_refl _)) _).setCell (Or.inr (Nat.le_refl _)) _).setCell (Or.inr (Nat.le_refl _)) _).setCell (Or.inr (Nat.le_refl _)) _).setCell (Or.inr (Nat.le_refl _)) _))

set_option maxHeartbeats 1000000 in
theorem slotNew_no (n : ByteArray) (v : Int) (c : ByteArray) (p a : Int) (w : World) (hn : n.size ≤ 9000000000000000000) (hc : c.size ≤ 9000000000000000000) (hi : imgE n v c ≠ 0) :
    Calls Tryd.prog 51 #[.agg #[.string n, .int .i64 v, .string c, .int .i64 p, .int .i64 a]] w fun e w' => e = .returned (.tuple #[.pointer none, errV (imgE n v c)]) ∧ Below w.heap.size w w' := by
  have en := fun k w => err_neq k w
  have gn := fun o k w => err_guard_neq o k w
  obtain ⟨E, hE⟩ : ∃ E, imgE n v c = E := ⟨_, rfl⟩
  rw [hE] at hi ⊢
  have t : (E != 0) = true := by simp [hi]
  have HE := Lib.hid hE
  clear hE hi
  go_enter Tryd.func51, Tryd.ntmps51
  go_wp2_with fail
  refine (imgCheck_any n v c _ hn hc).mono ?_
  rintro e w1 ⟨rfl, hb1⟩
  rw [HE.out]
  go_wp2_with fail
  go_ret2
  exact ⟨rfl, (by repeat (first | (with_reducible exact grow_refl _) | (with_reducible assumption) | (with_reducible refine grow_alloc ?_ _) | (with_reducible refine grow_set ?_ (by first | exact Nat.le_refl _ | (simp; done) | (simp; omega) | omega) _) | (with_reducible refine grow_drewN ?_ _) | (with_reducible refine grow_drew ?_) | (with_reducible refine grow_step ?_ (by assumption)) | (with_reducible refine grow_base ?_ (by assumption))))⟩

set_option maxHeartbeats 2000000 in
theorem slotNew_yes (n : ByteArray) (v : Int) (c : ByteArray) (p a : Int) (w : World) (hn : n.size ≤ 9000000000000000000) (hc : c.size ≤ 9000000000000000000) (hi : imgE n v c = 0) :
    Calls Tryd.prog 51 #[.agg #[.string n, .int .i64 v, .string c, .int .i64 p, .int .i64 a]] w fun e w' => ∃ g : Nat, e = .returned (.tuple #[.pointer (some ⟨g, 0, none⟩), errV 0]) ∧ Box w' g 148 (Slts.cs ⟨⟨n, v, c, p, a, true, 0, true⟩, noSlt, false⟩) ∧ w.heap.size ≤ g ∧ Below w.heap.size w w' := by
  have en := fun k w => err_neq k w
  have gn := fun o k w => err_guard_neq o k w
  have HS := Lib.hid (Box.new w 34 #[.string n, .int .i64 v, .string c, .int .i64 p, .int .i64 a])
  have HI := Lib.hid hi
  clear hi
  go_enter Tryd.func51, Tryd.ntmps51
  go_wp2_with fail
  refine (imgCheck_any n v c _ hn hc).mono ?_
  rintro e w1 ⟨rfl, hb1⟩
  rw [HI.out]
  have S1 := HS.out.below hb1
  have cS := S1.cell
  have lS := S1.lt
  have hb2 : Below w.heap.size w w1 := grow_step (grow_alloc (grow_refl _) _) hb1
  have hs2 := hb2.size
  clear S1
  go_wp2_with fail
  go_region
  go_wp2_with fail
  go_ret2
  first | exact ⟨w1.heap.size, rfl, by first | exact Box.new _ _ _ | exact (Box.new _ _ _).drew_, hs2, (by repeat (first | (with_reducible exact grow_refl _) | (with_reducible assumption) | (with_reducible refine grow_alloc ?_ _) | (with_reducible refine grow_set ?_ (by first | exact Nat.le_refl _ | (simp; done) | (simp; omega) | omega) _) | (with_reducible refine grow_drewN ?_ _) | (with_reducible refine grow_drew ?_) | (with_reducible refine grow_step ?_ (by assumption)) | (with_reducible refine grow_base ?_ (by assumption))))⟩ | exact ⟨w1.heap.size, ⟨rfl, by first | exact Box.new _ _ _ | exact (Box.new _ _ _).drew_, hs2, (by repeat (first | (with_reducible exact grow_refl _) | (with_reducible assumption) | (with_reducible refine grow_alloc ?_ _) | (with_reducible refine grow_set ?_ (by first | exact Nat.le_refl _ | (simp; done) | (simp; omega) | omega) _) | (with_reducible refine grow_drewN ?_ _) | (with_reducible refine grow_drew ?_) | (with_reducible refine grow_step ?_ (by assumption)) | (with_reducible refine grow_base ?_ (by assumption))))⟩⟩

end Go.Proofs.YtdedllfgeekogaaDoor
