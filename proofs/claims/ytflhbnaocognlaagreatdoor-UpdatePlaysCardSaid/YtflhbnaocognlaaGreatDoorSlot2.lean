/- slot: Start, New. -/
import Derived.Test.YtflhbnaocognlaaGreatDoorRows
import Derived.Test.YtflhbnaocognlaaGreatDoorNum
import Derived.Test.YtflhbnaocognlaaGreatDoorBase
import Derived.Test.YtflhbnaocognlaaGreatDoorMeas
import Derived.Test.YtflhbnaocognlaaGreatDoorApp
import Derived.Test.YtflhbnaocognlaaGreatDoorFoot
import Derived.Test.YtflhbnaocognlaaGreatDoorImg
import Derived.Test.YtflhbnaocognlaaGreatDoorSlot
import Derived.WalkKit
import Derived.WalkSpells
import Derived.WalkLawsBesides
import Derived.Lib.Hide
import Derived.Deep.QuietTactic
import Derived.BigQuiet
import Derived.RegionTactic
import Derived.BigRegion
namespace Go.Proofs.YtflhbnaocognlaaGreatDoor
open Go.RowKit
set_option maxRecDepth 100000
set_option linter.unusedSimpArgs false


set_option maxHeartbeats 2000000 in
theorem start_at (g : Nat) (s : Slts) (P : Bool) (w : World) (hB : Box w g 76 s.cs) (hP : s.pick = P) (ht : 0 ≤ (s.at_ P).t ∧ (s.at_ P).t ≤ 1000) :
    Calls Tryz.prog 15 #[.pointer (some ⟨g, 0, none⟩)] w fun e w' => e = .returned (.agg (s.at_ P).im) ∧ Box w' g 76 (Slts.set_ ⟨s.x, s.y, P⟩ P (s.at_ P).tried).cs ∧ But (fun k => k = g) w w' := by
  obtain ⟨⟨n0, v0, c0, p0, a0, f0, t0, g0⟩, ⟨n1, v1, c1, p1, a1, f1, t1, g1⟩, r⟩ := s
  have HP := Lib.hid hP
  have HB0 := Lib.hid (hB.alloc_ (.cells #[.string ⟨#[]⟩, .int .i64 0, .string ⟨#[]⟩, .int .i64 0, .int .i64 0] 30))
  have HR0 := Lib.hid (Box.new w 30 #[.string ⟨#[]⟩, .int .i64 0, .string ⟨#[]⟩, .int .i64 0, .int .i64 0])
  have hgl := hB.lt
  have HNE : Hid (g ≠ w.heap.size) := Lib.hid (by omega)
  have HNE2 : Hid (w.heap.size ≠ g) := Lib.hid (by omega)
  clear hP hB
  cases P
  · cases g0
    · obtain ⟨ht1, ht2⟩ : 0 ≤ t0 ∧ t0 ≤ 1000 := ht
      go_enter Tryz.func15, Tryz.ntmps15
      go_wp2_with fail
      refine (pick_at g _ false _ HB0.out HP.out).mono ?_
      rintro e w1 ⟨rfl, hb1⟩
      have HB := Lib.hid (HB0.out.below hb1)
      have HR := Lib.hid (HR0.out.below hb1)
      have hb2 : Below w.heap.size w w1 := grow_step (grow_alloc (grow_refl _) _) hb1
      have HK : Hid (But (fun k => k = g) w w1) := Lib.hid (below_but hb2 _)
      have cB := HB.out.cell
      have lB := HB.out.lt
      have fB := HB.out.frozen
      have cR := HR.out.cell
      have lR := HR.out.lt
      have fR := HR.out.frozen
      simp only [Slts.cs, rI] at cB
      clear hb1 hb2
      simp only [rI]
      go_wp2_with fail
      go_quiet (fail)
      go_wp2_with fail
      go_region
      go_wp2_with fail
      refine bodyPost_ret (v := .agg #[.string n0, .int .i64 v0, .string c0, .int .i64 p0, .int .i64 a0]) (ret_cell Tryz.results15 rfl (Box.drew_ (Box.fill5 (((HR.out.far (p := ⟨g, 16, none⟩) HNE2.out _).drewN_ _).far (p := ⟨g, 6, none⟩) HNE2.out _) _ _ _ _ _)) Tryz.underlying30 rfl (by kernel_rfl)) rfl ⟨rfl, ?_, ?_⟩
      · refine Box.cast (((((((((HB.out.set_ 16 _).drewN_ _).set_ 6 _).far (p := ⟨w.heap.size, 0, none⟩) HNE.out _).far (p := ⟨w.heap.size, 1, none⟩) HNE.out _).far (p := ⟨w.heap.size, 2, none⟩) HNE.out _).far (p := ⟨w.heap.size, 3, none⟩) HNE.out _).far (p := ⟨w.heap.size, 4, none⟩) HNE.out _)).drew_ ?_
        simp [Slts.cs, Slts.set_, Slts.at_, Slt.tried, rI]
      · exact (((((((((HK.out.setCell (Or.inl rfl) _).drewN _).setCell (Or.inl rfl) _).setCell (Or.inr (Nat.le_refl _)) _).setCell (Or.inr (Nat.le_refl _)) _).setCell (Or.inr (Nat.le_refl _)) _).setCell (Or.inr (Nat.le_refl _)) _).setCell (Or.inr (Nat.le_refl _)) _)).drew
    · obtain ⟨ht1, ht2⟩ : 0 ≤ t0 ∧ t0 ≤ 1000 := ht
      go_enter Tryz.func15, Tryz.ntmps15
      go_wp2_with fail
      refine (pick_at g _ false _ HB0.out HP.out).mono ?_
      rintro e w1 ⟨rfl, hb1⟩
      have HB := Lib.hid (HB0.out.below hb1)
      have HR := Lib.hid (HR0.out.below hb1)
      have hb2 : Below w.heap.size w w1 := grow_step (grow_alloc (grow_refl _) _) hb1
      have HK : Hid (But (fun k => k = g) w w1) := Lib.hid (below_but hb2 _)
      have cB := HB.out.cell
      have lB := HB.out.lt
      have fB := HB.out.frozen
      have cR := HR.out.cell
      have lR := HR.out.lt
      have fR := HR.out.frozen
      simp only [Slts.cs, rI] at cB
      clear hb1 hb2
      simp only [rI]
      go_wp2_with fail
      go_quiet (fail)
      go_wp2_with fail
      go_region
      go_wp2_with fail
      refine bodyPost_ret (v := .agg #[.string n0, .int .i64 v0, .string c0, .int .i64 p0, .int .i64 a0]) (ret_cell Tryz.results15 rfl (Box.fill5 ((HR.out.far (p := ⟨g, 16, none⟩) HNE2.out _).drewN_ _) _ _ _ _ _) Tryz.underlying30 rfl (by kernel_rfl)) rfl ⟨rfl, ?_, ?_⟩
      · refine Box.cast ((((((((HB.out.set_ 16 _).drewN_ _).far (p := ⟨w.heap.size, 0, none⟩) HNE.out _).far (p := ⟨w.heap.size, 1, none⟩) HNE.out _).far (p := ⟨w.heap.size, 2, none⟩) HNE.out _).far (p := ⟨w.heap.size, 3, none⟩) HNE.out _).far (p := ⟨w.heap.size, 4, none⟩) HNE.out _)) ?_
        simp [Slts.cs, Slts.set_, Slts.at_, Slt.tried, rI]
      · exact ((((((((HK.out.setCell (Or.inl rfl) _).drewN _).setCell (Or.inr (Nat.le_refl _)) _).setCell (Or.inr (Nat.le_refl _)) _).setCell (Or.inr (Nat.le_refl _)) _).setCell (Or.inr (Nat.le_refl _)) _).setCell (Or.inr (Nat.le_refl _)) _))
  · cases g1
    · obtain ⟨ht1, ht2⟩ : 0 ≤ t1 ∧ t1 ≤ 1000 := ht
      go_enter Tryz.func15, Tryz.ntmps15
      go_wp2_with fail
      refine (pick_at g _ true _ HB0.out HP.out).mono ?_
      rintro e w1 ⟨rfl, hb1⟩
      have HB := Lib.hid (HB0.out.below hb1)
      have HR := Lib.hid (HR0.out.below hb1)
      have hb2 : Below w.heap.size w w1 := grow_step (grow_alloc (grow_refl _) _) hb1
      have HK : Hid (But (fun k => k = g) w w1) := Lib.hid (below_but hb2 _)
      have cB := HB.out.cell
      have lB := HB.out.lt
      have fB := HB.out.frozen
      have cR := HR.out.cell
      have lR := HR.out.lt
      have fR := HR.out.frozen
      simp only [Slts.cs, rI] at cB
      clear hb1 hb2
      simp only [rI]
      go_wp2_with fail
      go_quiet (fail)
      go_wp2_with fail
      go_region
      go_wp2_with fail
      refine bodyPost_ret (v := .agg #[.string n1, .int .i64 v1, .string c1, .int .i64 p1, .int .i64 a1]) (ret_cell Tryz.results15 rfl (Box.drew_ (Box.fill5 (((HR.out.far (p := ⟨g, 16, none⟩) HNE2.out _).drewN_ _).far (p := ⟨g, 14, none⟩) HNE2.out _) _ _ _ _ _)) Tryz.underlying30 rfl (by kernel_rfl)) rfl ⟨rfl, ?_, ?_⟩
      · refine Box.cast (((((((((HB.out.set_ 16 _).drewN_ _).set_ 14 _).far (p := ⟨w.heap.size, 0, none⟩) HNE.out _).far (p := ⟨w.heap.size, 1, none⟩) HNE.out _).far (p := ⟨w.heap.size, 2, none⟩) HNE.out _).far (p := ⟨w.heap.size, 3, none⟩) HNE.out _).far (p := ⟨w.heap.size, 4, none⟩) HNE.out _)).drew_ ?_
        simp [Slts.cs, Slts.set_, Slts.at_, Slt.tried, rI]
      · exact (((((((((HK.out.setCell (Or.inl rfl) _).drewN _).setCell (Or.inl rfl) _).setCell (Or.inr (Nat.le_refl _)) _).setCell (Or.inr (Nat.le_refl _)) _).setCell (Or.inr (Nat.le_refl _)) _).setCell (Or.inr (Nat.le_refl _)) _).setCell (Or.inr (Nat.le_refl _)) _)).drew
    · obtain ⟨ht1, ht2⟩ : 0 ≤ t1 ∧ t1 ≤ 1000 := ht
      go_enter Tryz.func15, Tryz.ntmps15
      go_wp2_with fail
      refine (pick_at g _ true _ HB0.out HP.out).mono ?_
      rintro e w1 ⟨rfl, hb1⟩
      have HB := Lib.hid (HB0.out.below hb1)
      have HR := Lib.hid (HR0.out.below hb1)
      have hb2 : Below w.heap.size w w1 := grow_step (grow_alloc (grow_refl _) _) hb1
      have HK : Hid (But (fun k => k = g) w w1) := Lib.hid (below_but hb2 _)
      have cB := HB.out.cell
      have lB := HB.out.lt
      have fB := HB.out.frozen
      have cR := HR.out.cell
      have lR := HR.out.lt
      have fR := HR.out.frozen
      simp only [Slts.cs, rI] at cB
      clear hb1 hb2
      simp only [rI]
      go_wp2_with fail
      go_quiet (fail)
      go_wp2_with fail
      go_region
      go_wp2_with fail
      refine bodyPost_ret (v := .agg #[.string n1, .int .i64 v1, .string c1, .int .i64 p1, .int .i64 a1]) (ret_cell Tryz.results15 rfl (Box.fill5 ((HR.out.far (p := ⟨g, 16, none⟩) HNE2.out _).drewN_ _) _ _ _ _ _) Tryz.underlying30 rfl (by kernel_rfl)) rfl ⟨rfl, ?_, ?_⟩
      · refine Box.cast ((((((((HB.out.set_ 16 _).drewN_ _).far (p := ⟨w.heap.size, 0, none⟩) HNE.out _).far (p := ⟨w.heap.size, 1, none⟩) HNE.out _).far (p := ⟨w.heap.size, 2, none⟩) HNE.out _).far (p := ⟨w.heap.size, 3, none⟩) HNE.out _).far (p := ⟨w.heap.size, 4, none⟩) HNE.out _)) ?_
        simp [Slts.cs, Slts.set_, Slts.at_, Slt.tried, rI]
      · exact ((((((((HK.out.setCell (Or.inl rfl) _).drewN _).setCell (Or.inr (Nat.le_refl _)) _).setCell (Or.inr (Nat.le_refl _)) _).setCell (Or.inr (Nat.le_refl _)) _).setCell (Or.inr (Nat.le_refl _)) _).setCell (Or.inr (Nat.le_refl _)) _))

set_option maxHeartbeats 1000000 in
theorem slotNew_no (n : ByteArray) (v : Int) (c : ByteArray) (p a : Int) (w : World) (hn : n.size ≤ 9000000000000000000) (hc : c.size ≤ 9000000000000000000) (hi : imgE n v c ≠ 0) :
    Calls Tryz.prog 7 #[.agg #[.string n, .int .i64 v, .string c, .int .i64 p, .int .i64 a]] w fun e w' => e = .returned (.tuple #[.pointer none, errV (imgE n v c)]) ∧ Below w.heap.size w w' := by
  have en := fun k w => err_neq k w
  have gn := fun o k w => err_guard_neq o k w
  obtain ⟨E, hE⟩ : ∃ E, imgE n v c = E := ⟨_, rfl⟩
  rw [hE] at hi ⊢
  have t : (E != 0) = true := by simp [hi]
  have HE := Lib.hid hE
  clear hE hi
  go_enter Tryz.func7, Tryz.ntmps7
  go_wp2_with fail
  refine (imgCheck_any n v c _ hn hc).mono ?_
  rintro e w1 ⟨rfl, hb1⟩
  rw [HE.out]
  go_wp2_with fail
  go_ret2
  exact ⟨rfl, (by repeat (first | (with_reducible exact grow_refl _) | (with_reducible assumption) | (with_reducible refine grow_alloc ?_ _) | (with_reducible refine grow_set ?_ (by first | exact Nat.le_refl _ | (simp; done) | (simp; omega) | omega) _) | (with_reducible refine grow_drewN ?_ _) | (with_reducible refine grow_drew ?_) | (with_reducible refine grow_step ?_ (by assumption)) | (with_reducible refine grow_base ?_ (by assumption))))⟩

set_option maxHeartbeats 2000000 in
theorem slotNew_yes (n : ByteArray) (v : Int) (c : ByteArray) (p a : Int) (w : World) (hn : n.size ≤ 9000000000000000000) (hc : c.size ≤ 9000000000000000000) (hi : imgE n v c = 0) :
    Calls Tryz.prog 7 #[.agg #[.string n, .int .i64 v, .string c, .int .i64 p, .int .i64 a]] w fun e w' => ∃ g : Nat, e = .returned (.tuple #[.pointer (some ⟨g, 0, none⟩), errV 0]) ∧ Box w' g 76 (Slts.cs ⟨⟨n, v, c, p, a, true, 0, true⟩, noSlt, false⟩) ∧ w.heap.size ≤ g ∧ Below w.heap.size w w' := by
  have en := fun k w => err_neq k w
  have gn := fun o k w => err_guard_neq o k w
  have HS := Lib.hid (Box.new w 30 #[.string n, .int .i64 v, .string c, .int .i64 p, .int .i64 a])
  have HI := Lib.hid hi
  clear hi
  go_enter Tryz.func7, Tryz.ntmps7
  go_wp2_with fail
  refine (imgCheck_any n v c _ hn hc).mono ?_
  rintro e w1 ⟨rfl, hb1⟩
  rw [HI.out]
  have S1 := HS.out.below hb1
  have cS := S1.cell
  have lS := S1.lt
  have hb2 : Below w.heap.size w w1 := grow_step (grow_alloc (grow_refl _) _) hb1
  have hs2 := hb2.size
  clear S1
  go_wp2_with fail
  go_region
  go_wp2_with fail
  go_ret2
  first | exact ⟨w1.heap.size, rfl, by first | exact Box.new _ _ _ | exact (Box.new _ _ _).drew_, hs2, (by repeat (first | (with_reducible exact grow_refl _) | (with_reducible assumption) | (with_reducible refine grow_alloc ?_ _) | (with_reducible refine grow_set ?_ (by first | exact Nat.le_refl _ | (simp; done) | (simp; omega) | omega) _) | (with_reducible refine grow_drewN ?_ _) | (with_reducible refine grow_drew ?_) | (with_reducible refine grow_step ?_ (by assumption)) | (with_reducible refine grow_base ?_ (by assumption))))⟩ | exact ⟨w1.heap.size, ⟨rfl, by first | exact Box.new _ _ _ | exact (Box.new _ _ _).drew_, hs2, (by repeat (first | (with_reducible exact grow_refl _) | (with_reducible assumption) | (with_reducible refine grow_alloc ?_ _) | (with_reducible refine grow_set ?_ (by first | exact Nat.le_refl _ | (simp; done) | (simp; omega) | omega) _) | (with_reducible refine grow_drewN ?_ _) | (with_reducible refine grow_drew ?_) | (with_reducible refine grow_step ?_ (by assumption)) | (with_reducible refine grow_base ?_ (by assumption))))⟩⟩

end Go.Proofs.YtflhbnaocognlaaGreatDoor
