/- BankForward: only the one, and only by what went in. -/
import Derived.Test.YtfklbifgjpocnaaRows
import Derived.Test.YtfklbifgjpocnaaOpen
import Derived.Test.YtfklbifgjpocnaaBank2
import Derived.Test.YtfklbifgjpocnaaBank3
import Derived.Test.YtfklbifgjpocnaaEq8
import Derived.WalkKit
import Derived.Lib.Hide
import Derived.Deep.QuietTactic
import Derived.BigQuiet
namespace Go.Proofs.Ytfklbifgjpocnaa
open Go.ChangeShapes Go.WideShapes Go.ChangeAt Go.RowKit
set_option linter.unusedVariables false

theorem fwd_ways (x0 x1 x2 x3 x4 x5 x6 x7 : Int) (u0 u1 u2 u3 u4 u5 u6 u7 : Int) (k : Int) (mask : Int) :
    (sameE [x0, x1, x2, x3, x4, x5, x6, x7] [u0, u1, u2, u3, u4, u5, u6, u7] mask = 1) ∨
    (sameE [x0, x1, x2, x3, x4, x5, x6, x7] [u0, u1, u2, u3, u4, u5, u6, u7] mask = 0 ∧ digE [x0, x1, x2, x3, x4, x5, x6, x7] mask = 0 ∧ digE [u0, u1, u2, u3, u4, u5, u6, u7] mask = 0 ∧ sameE [x0, x1, x2, x3, x4, x5, x6, x7] [u0, u1, u2, u3, u4, u5, u6, u7] 255 = 0 ∧ sameB [x0, x1, x2, x3, x4, x5, x6, x7] [u0, u1, u2, u3, u4, u5, u6, u7] mask = true ∧ (digM [x0, x1, x2, x3, x4, x5, x6, x7] mask == digM [u0, u1, u2, u3, u4, u5, u6, u7] mask) = true ∧ sameB [x0, x1, x2, x3, x4, x5, x6, x7] [u0, u1, u2, u3, u4, u5, u6, u7] 255 = ([x0, x1, x2, x3, x4, x5, x6, x7] == [u0, u1, u2, u3, u4, u5, u6, u7])) ∨
    (sameE [x0, x1, x2, x3, x4, x5, x6, x7] [u0, u1, u2, u3, u4, u5, u6, u7] mask = 0 ∧ digE [x0, x1, x2, x3, x4, x5, x6, x7] mask = 0 ∧ digE [u0, u1, u2, u3, u4, u5, u6, u7] mask = 0 ∧ sameE [x0, x1, x2, x3, x4, x5, x6, x7] [u0, u1, u2, u3, u4, u5, u6, u7] 255 = 0 ∧ sameB [x0, x1, x2, x3, x4, x5, x6, x7] [u0, u1, u2, u3, u4, u5, u6, u7] mask = false ∧ sameB [x0, x1, x2, x3, x4, x5, x6, x7] [u0, u1, u2, u3, u4, u5, u6, u7] 255 = false ∧ ([x0, x1, x2, x3, x4, x5, x6, x7] == [u0, u1, u2, u3, u4, u5, u6, u7]) = false) := by
  cases hx : ([x0, x1, x2, x3, x4, x5, x6, x7]).all okM
  · left; unfold sameE; rw [hx]; rfl
  · cases hc : ([u0, u1, u2, u3, u4, u5, u6, u7]).all okM
    · left; unfold sameE; rw [hx, hc]; rfl
    · cases hm : okMask mask
      · left; unfold sameE; rw [hx, hc, hm]; rfl
      · right
        have e1 : sameE [x0, x1, x2, x3, x4, x5, x6, x7] [u0, u1, u2, u3, u4, u5, u6, u7] mask = 0 := by unfold sameE; rw [hx, hc, hm]; rfl
        have e2 : digE [x0, x1, x2, x3, x4, x5, x6, x7] mask = 0 := by unfold digE; rw [hx, hm]; rfl
        have e3 : digE [u0, u1, u2, u3, u4, u5, u6, u7] mask = 0 := by unfold digE; rw [hc, hm]; rfl
        have e4 : sameE [x0, x1, x2, x3, x4, x5, x6, x7] [u0, u1, u2, u3, u4, u5, u6, u7] 255 = 0 := by unfold sameE; rw [hx, hc]; rfl
        have e5 : sameB [x0, x1, x2, x3, x4, x5, x6, x7] [u0, u1, u2, u3, u4, u5, u6, u7] 255 = ([x0, x1, x2, x3, x4, x5, x6, x7] == [u0, u1, u2, u3, u4, u5, u6, u7]) := by unfold sameB; rw [hx, hc, told_all, told_all]; rfl
        have e6 : sameB [x0, x1, x2, x3, x4, x5, x6, x7] [u0, u1, u2, u3, u4, u5, u6, u7] mask = (toldM [x0, x1, x2, x3, x4, x5, x6, x7] mask == toldM [u0, u1, u2, u3, u4, u5, u6, u7] mask) := by unfold sameB; rw [hx, hc, hm]; rfl
        cases hs : (toldM [x0, x1, x2, x3, x4, x5, x6, x7] mask == toldM [u0, u1, u2, u3, u4, u5, u6, u7] mask)
        · right
          have hne : ([x0, x1, x2, x3, x4, x5, x6, x7] == [u0, u1, u2, u3, u4, u5, u6, u7]) = false := by
            rw [beq_eq_false_iff_ne]
            intro h
            rw [h] at hs
            rw [beq_self_eq_true] at hs
            cases hs
          exact ⟨e1, e2, e3, e4, by rw [e6, hs], by rw [e5, hne], hne⟩
        · left
          refine ⟨e1, e2, e3, e4, by rw [e6, hs], ?_, e5⟩
          have := beq_iff_eq.1 hs
          unfold digM isM
          rw [hx, hc, hm, this]
          exact beq_self_eq_true _

set_option maxHeartbeats 4000000 in
theorem bankForward_walk (w : World) (x0 x1 x2 x3 x4 x5 x6 x7 : Int) (i m k mask : Int) (u0 u1 u2 u3 u4 u5 u6 u7 : Int) (i1 : I64 i) (i2 : I64 m) (i3 : I64 k) (i4 : I64 mask) :
    Calls Try.prog 14 #[.agg #[.int .i64 x0, .int .i64 x1, .int .i64 x2, .int .i64 x3, .int .i64 x4, .int .i64 x5, .int .i64 x6, .int .i64 x7], .int .i64 i, .int .i64 m, .int .i64 k, .int .i64 mask, .agg #[.int .i64 u0, .int .i64 u1, .int .i64 u2, .int .i64 u3, .int .i64 u4, .int .i64 u5, .int .i64 u6, .int .i64 u7]] w fun e w' => e = .returned (.bool true) ∧ Below w.heap.size w w' := by
  have en := fun k w => err_neq k w
  have ee := fun k w => err_eql k w
  have gn := fun o k w => err_guard_neq o k w
  have ge := fun o k w => err_guard_eql o k w
  have F0 : Hid (extB [0, 0, 0, 0, 0, 0, 0, 0] 3 5 = [0, 0, 0, 6, 0, 0, 0, 0] ∧ extE [0, 0, 0, 0, 0, 0, 0, 0] 3 5 = 0) := Lib.hid (by decide)
  have HWAY := Lib.hid (fwd_ways x0 x1 x2 x3 x4 x5 x6 x7 u0 u1 u2 u3 u4 u5 u6 u7 k mask)
  clear i1 i2 i3 i4
  cases ho : extOk [x0, x1, x2, x3, x4, x5, x6, x7] i m
  · have hE := (ext_no ho).2
    clear ho
    go_enter Try.func14, Try.ntmps14
    go_wp2_with fail
    refine (extend_any 0 0 0 0 0 0 0 0 _ _ _).mono ?_
    rintro e w1 ⟨y0, y1, y2, y3, y4, y5, y6, y7, hy, rfl, hb1⟩
    rw [F0.out.1] at hy
    simp only [List.cons.injEq, and_true] at hy
    obtain ⟨rfl, rfl, rfl, rfl, rfl, rfl, rfl, rfl⟩ := hy
    rw [F0.out.2]
    have BB1 : Box w1 w.heap.size 50 #[.int .i64 x0, .int .i64 x1, .int .i64 x2, .int .i64 x3, .int .i64 x4, .int .i64 x5, .int .i64 x6, .int .i64 x7] := ((Box.new _ _ _).below (grow_alloc (grow_alloc (grow_refl _) _) _)).below hb1
    have c1 := BB1.cell; have l1 := BB1.lt
    go_wp2_with fail
    refine (extend_any x0 x1 x2 x3 x4 x5 x6 x7 _ _ _).mono ?_
    rintro e w2 ⟨z0, z1, z2, z3, z4, z5, z6, z7, hz, rfl, hb2⟩
    rw [hE]
    clear hz
    go_wp2_with fail
    go_ret
    exact ⟨rfl, (by repeat (first | (with_reducible exact grow_refl _) | (with_reducible assumption) | (with_reducible refine grow_alloc ?_ _) | (with_reducible refine grow_set ?_ (by first | exact Nat.le_refl _ | (simp; done) | (simp; omega) | omega) _) | (with_reducible refine grow_drewN ?_ _) | (with_reducible refine grow_drew ?_) | (with_reducible refine grow_step ?_ (by assumption)) | (with_reducible refine grow_base ?_ (by assumption))))⟩
  · have hY := ext_yes ho
    have hok : okReg i = true ∧ okM m = true ∧ ([x0, x1, x2, x3, x4, x5, x6, x7]).all okM = true := by
      unfold extOk at ho
      simp only [Bool.and_eq_true] at ho
      exact ⟨ho.1.2, ho.2, ho.1.1⟩
    obtain ⟨r1, r2⟩ := okReg_yes hok.1
    have HK := Lib.hid hok
    have HY := Lib.hid hY
    clear ho hY hok
    go_enter Try.func14, Try.ntmps14
    go_wp2_with fail
    refine (extend_any 0 0 0 0 0 0 0 0 _ _ _).mono ?_
    rintro e w1 ⟨y0, y1, y2, y3, y4, y5, y6, y7, hy, rfl, hb1⟩
    rw [F0.out.1] at hy
    simp only [List.cons.injEq, and_true] at hy
    obtain ⟨rfl, rfl, rfl, rfl, rfl, rfl, rfl, rfl⟩ := hy
    rw [F0.out.2]
    have BB1 : Box w1 w.heap.size 50 #[.int .i64 x0, .int .i64 x1, .int .i64 x2, .int .i64 x3, .int .i64 x4, .int .i64 x5, .int .i64 x6, .int .i64 x7] := ((Box.new _ _ _).below (grow_alloc (grow_alloc (grow_refl _) _) _)).below hb1
    have CC1 : Box w1 (w.heap.size + 1) 50 #[.int .i64 u0, .int .i64 u1, .int .i64 u2, .int .i64 u3, .int .i64 u4, .int .i64 u5, .int .i64 u6, .int .i64 u7] := by have := ((Box.new (w.alloc (.cells #[.int .i64 x0, .int .i64 x1, .int .i64 x2, .int .i64 x3, .int .i64 x4, .int .i64 x5, .int .i64 x6, .int .i64 x7] 50)) 50 #[.int .i64 u0, .int .i64 u1, .int .i64 u2, .int .i64 u3, .int .i64 u4, .int .i64 u5, .int .i64 u6, .int .i64 u7]).below (grow_alloc (grow_refl _) (.cells #[.int .i64 0, .int .i64 0, .int .i64 0, .int .i64 0, .int .i64 0, .int .i64 0, .int .i64 0, .int .i64 0] 50))).below hb1; simpa using this
    have c1 := BB1.cell; have l1 := BB1.lt
    go_wp2_with fail
    clear c1 l1
    refine (extend_any x0 x1 x2 x3 x4 x5 x6 x7 _ _ _).mono ?_
    rintro e w2 ⟨y0, y1, y2, y3, y4, y5, y6, y7, hy, rfl, hb2⟩
    rw [HY.out.2]
    have HL := Lib.hid hy
    clear hy
    have BB2 := (BB1.below (grow_alloc (grow_refl _) _)).below hb2
    have CC2 := (CC1.below (grow_alloc (grow_refl _) _)).below hb2
    go_wp2_with fail
    have YY3 := Box.new w2 50 #[.int .i64 y0, .int .i64 y1, .int .i64 y2, .int .i64 y3, .int .i64 y4, .int .i64 y5, .int .i64 y6, .int .i64 y7]
    have BB3 := BB2.below (grow_alloc (grow_refl _) (.cells #[.int .i64 y0, .int .i64 y1, .int .i64 y2, .int .i64 y3, .int .i64 y4, .int .i64 y5, .int .i64 y6, .int .i64 y7] 50))
    have CC3 := CC2.below (grow_alloc (grow_refl _) (.cells #[.int .i64 y0, .int .i64 y1, .int .i64 y2, .int .i64 y3, .int .i64 y4, .int .i64 y5, .int .i64 y6, .int .i64 y7] 50))
    go_loopw [18] (fun j wr => ∃ n : Nat, n ≤ 8 ∧ j = .int .i64 n ∧ Below w.heap.size w wr ∧ Box wr w.heap.size 50 #[.int .i64 x0, .int .i64 x1, .int .i64 x2, .int .i64 x3, .int .i64 x4, .int .i64 x5, .int .i64 x6, .int .i64 x7] ∧ Box wr (w.heap.size + 1) 50 #[.int .i64 u0, .int .i64 u1, .int .i64 u2, .int .i64 u3, .int .i64 u4, .int .i64 u5, .int .i64 u6, .int .i64 u7] ∧ Box wr w2.heap.size 50 #[.int .i64 y0, .int .i64 y1, .int .i64 y2, .int .i64 y3, .int .i64 y4, .int .i64 y5, .int .i64 y6, .int .i64 y7]) (fun j _ => 8 - (intOf j).toNat)
    case atStart => exact ⟨0, by omega, rfl, (by repeat (first | (with_reducible exact grow_refl _) | (with_reducible assumption) | (with_reducible refine grow_alloc ?_ _) | (with_reducible refine grow_set ?_ (by first | exact Nat.le_refl _ | (simp; done) | (simp; omega) | omega) _) | (with_reducible refine grow_drewN ?_ _) | (with_reducible refine grow_drew ?_) | (with_reducible refine grow_step ?_ (by assumption)) | (with_reducible refine grow_base ?_ (by assumption)))), BB3, CC3, YY3⟩
    case round =>
      obtain ⟨n, hn, rfl, hb, BB, CC, YY⟩ := hrel
      by_cases hlt : n < 8
      · have hbx := BB.at_ (xs := [x0, x1, x2, x3, x4, x5, x6, x7]) n hlt
        have hyx := YY.at_ (xs := [y0, y1, y2, y3, y4, y5, y6, y7]) n hlt
        by_cases hni : (n : Int) = i
        · have t : ((n : Int) != i) = false := by simp [hni]
          have HN := Lib.hid hni
          clear hni hbx hyx
          go_wp2
          go_quiet (fail)
          go_wp2
          go_roundw
          case rel => exact ⟨n + 1, by omega, by go_num, (by repeat (first | (with_reducible exact grow_refl _) | (with_reducible assumption) | (with_reducible refine grow_alloc ?_ _) | (with_reducible refine grow_set ?_ (by first | exact Nat.le_refl _ | (simp; done) | (simp; omega) | omega) _) | (with_reducible refine grow_drewN ?_ _) | (with_reducible refine grow_drew ?_) | (with_reducible refine grow_step ?_ (by assumption)) | (with_reducible refine grow_base ?_ (by assumption)))), BB.below (grow_drewN (grow_refl _) _), CC.below (grow_drewN (grow_refl _) _), YY.below (grow_drewN (grow_refl _) _)⟩
          case measure => simp [intOf]; omega
        · have t : ((n : Int) != i) = true := by simp [hni]
          have he : ([y0, y1, y2, y3, y4, y5, y6, y7]).getD n 0 = ([x0, x1, x2, x3, x4, x5, x6, x7]).getD n 0 := by
            rw [HL.out, HY.out.1]
            exact set_getD _ _ _ _ (by omega)
          rw [he] at hyx
          obtain ⟨v, hv⟩ : ∃ v, ([x0, x1, x2, x3, x4, x5, x6, x7]).getD n 0 = v := ⟨_, rfl⟩
          rw [hv] at hyx hbx
          have g1 : (n : Int) < 8 := by omega
          have g2 : (0 : Int) ≤ (n : Int) := by omega
          have t2 : (v != v) = false := by simp
          clear hni he hv
          go_wp2
          go_quiet (fail)
          go_wp2
          go_roundw
          case rel => exact ⟨n + 1, by omega, by go_num, (by repeat (first | (with_reducible exact grow_refl _) | (with_reducible assumption) | (with_reducible refine grow_alloc ?_ _) | (with_reducible refine grow_set ?_ (by first | exact Nat.le_refl _ | (simp; done) | (simp; omega) | omega) _) | (with_reducible refine grow_drewN ?_ _) | (with_reducible refine grow_drew ?_) | (with_reducible refine grow_step ?_ (by assumption)) | (with_reducible refine grow_base ?_ (by assumption)))), BB.below (grow_drewN (grow_refl _) _), CC.below (grow_drewN (grow_refl _) _), YY.below (grow_drewN (grow_refl _) _)⟩
          case measure => simp [intOf]; omega
      · have cB := BB.cell; have lB := BB.lt
        cases hk : okM k
        · have ho2 : extOk [x0, x1, x2, x3, x4, x5, x6, x7] i k = false := by unfold extOk; rw [hk]; simp
          have hE2 := (ext_no ho2).2
          clear ho2
          go_wp2_with fail
          clear cB lB
          refine (extend_any x0 x1 x2 x3 x4 x5 x6 x7 _ _ _).mono ?_
          rintro e w3 ⟨z0, z1, z2, z3, z4, z5, z6, z7, hz, rfl, hb3⟩
          rw [hE2]
          have HZ := Lib.hid hz
          clear hz hE2
          have BB3' := (BB.below hb3).below (grow_alloc (grow_refl _) (.cells #[.int .i64 z0, .int .i64 z1, .int .i64 z2, .int .i64 z3, .int .i64 z4, .int .i64 z5, .int .i64 z6, .int .i64 z7] 50))
          have CC3' := (CC.below hb3).below (grow_alloc (grow_refl _) (.cells #[.int .i64 z0, .int .i64 z1, .int .i64 z2, .int .i64 z3, .int .i64 z4, .int .i64 z5, .int .i64 z6, .int .i64 z7] 50))
          have c3 := (BB.below hb3).cell; have l3 := (BB.below hb3).lt; have d3 := (CC.below hb3).cell; have m3 := (CC.below hb3).lt
          rcases HWAY.out with g1 | ⟨g1, g2, g3, g4, g5, g6, g7⟩ | ⟨g1, g2, g3, g4, g5, g6, g7⟩
          · clear HWAY
            go_wp2_with fail
            refine (same_any x0 x1 x2 x3 x4 x5 x6 x7 u0 u1 u2 u3 u4 u5 u6 u7 _ _).mono ?_
            rintro e w4 ⟨rfl, hb4⟩
            rw [g1]
            go_wp2_with fail
            go_ret
            exact ⟨rfl, (by repeat (first | (with_reducible exact grow_refl _) | (with_reducible assumption) | (with_reducible refine grow_alloc ?_ _) | (with_reducible refine grow_set ?_ (by first | exact Nat.le_refl _ | (simp; done) | (simp; omega) | omega) _) | (with_reducible refine grow_drewN ?_ _) | (with_reducible refine grow_drew ?_) | (with_reducible refine grow_step ?_ (by assumption)) | (with_reducible refine grow_base ?_ (by assumption))))⟩
          all_goals
            clear HWAY
            have G := Lib.hid (And.intro g1 (And.intro g2 (And.intro g3 (And.intro g4 (And.intro g5 (And.intro g6 g7))))))
            clear g1 g2 g3 g4 g5 g6 g7
            go_wp2_with fail
            clear c3 l3 d3 m3
            refine (same_any x0 x1 x2 x3 x4 x5 x6 x7 u0 u1 u2 u3 u4 u5 u6 u7 _ _).mono ?_
            rintro e w4 ⟨rfl, hb4⟩
            rw [G.out.1, G.out.2.2.2.2.1]
            have BB4 := BB3'.below hb4
            have CC4 := CC3'.below hb4
            have c4 := BB4.cell; have l4 := BB4.lt
            go_wp2_with fail
            clear c4 l4
            refine (digest_any x0 x1 x2 x3 x4 x5 x6 x7 _ _).mono ?_
            rintro e w5 ⟨rfl, hb5⟩
            rw [G.out.2.1]
            have BB5 := BB4.below hb5
            have CC5 := CC4.below hb5
            have d5 := CC5.cell; have m5 := CC5.lt
            go_wp2_with fail
            clear d5 m5
            refine (digest_any u0 u1 u2 u3 u4 u5 u6 u7 _ _).mono ?_
            rintro e w6 ⟨rfl, hb6⟩
            rw [G.out.2.2.1]
            have BB6 := BB5.below hb6
            have CC6 := CC5.below hb6
            have c6 := BB6.cell; have l6 := BB6.lt; have d6 := CC6.cell; have m6 := CC6.lt
            go_wp2_with fail
            clear c6 l6 d6 m6
            refine (same_any x0 x1 x2 x3 x4 x5 x6 x7 u0 u1 u2 u3 u4 u5 u6 u7 _ _).mono ?_
            rintro e w7 ⟨rfl, hb7⟩
            rw [G.out.2.2.2.1]
            have BB7 := BB6.below hb7
            have CC7 := CC6.below hb7
            have c7 := BB7.cell; have l7 := BB7.lt; have d7 := CC7.cell; have m7 := CC7.lt
            have q6 := G.out.2.2.2.2.2.1
            have q7 := G.out.2.2.2.2.2.2
            have rq := fun w => run_eq8_eql x0 x1 x2 x3 x4 x5 x6 x7 u0 u1 u2 u3 u4 u5 u6 u7 w
            have rg := fun o p w => run_eq8_guard x0 x1 x2 x3 x4 x5 x6 x7 u0 u1 u2 u3 u4 u5 u6 u7 .eql o p w
            go_wp2_with fail
            all_goals go_ret
            all_goals exact ⟨bool_lit (by simp), (by repeat (first | (with_reducible exact grow_refl _) | (with_reducible assumption) | (with_reducible refine grow_alloc ?_ _) | (with_reducible refine grow_set ?_ (by first | exact Nat.le_refl _ | (simp; done) | (simp; omega) | omega) _) | (with_reducible refine grow_drewN ?_ _) | (with_reducible refine grow_drew ?_) | (with_reducible refine grow_step ?_ (by assumption)) | (with_reducible refine grow_base ?_ (by assumption))))⟩
        · have ho2 : extOk [x0, x1, x2, x3, x4, x5, x6, x7] i k = true := by unfold extOk; rw [hk, HK.out.1, HK.out.2.2]; rfl
          have hY2 := Lib.hid (ext_yes ho2)
          have hE2 := (ext_yes ho2).2
          clear ho2
          have YYc := YY.cell
          go_wp2_with fail
          clear cB lB YYc
          refine (extend_any x0 x1 x2 x3 x4 x5 x6 x7 _ _ _).mono ?_
          rintro e w3 ⟨z0, z1, z2, z3, z4, z5, z6, z7, hz, rfl, hb3⟩
          rw [hE2]
          have heq : ([y0, y1, y2, y3, y4, y5, y6, y7] == [z0, z1, z2, z3, z4, z5, z6, z7]) = (m == k) := by
            rw [HL.out, hz, HY.out.1, hY2.out.1, Bool.eq_iff_iff, beq_iff_eq, beq_iff_eq, set_eq (by simp; omega), pairM_inj HK.out.2.1 hk]
          have HZ := Lib.hid hz
          clear hz hE2
          have BB3' := (BB.below hb3).below (grow_alloc (grow_refl _) (.cells #[.int .i64 z0, .int .i64 z1, .int .i64 z2, .int .i64 z3, .int .i64 z4, .int .i64 z5, .int .i64 z6, .int .i64 z7] 50))
          have CC3' := (CC.below hb3).below (grow_alloc (grow_refl _) (.cells #[.int .i64 z0, .int .i64 z1, .int .i64 z2, .int .i64 z3, .int .i64 z4, .int .i64 z5, .int .i64 z6, .int .i64 z7] 50))
          have c3 := (BB.below hb3).cell; have l3 := (BB.below hb3).lt; have d3 := (CC.below hb3).cell; have m3 := (CC.below hb3).lt
          have yc3 := (YY.below hb3).cell; have n3 := (YY.below hb3).lt
          have rq3 := fun w => run_eq8_eql y0 y1 y2 y3 y4 y5 y6 y7 z0 z1 z2 z3 z4 z5 z6 z7 w
          have rg3 := fun o p w => run_eq8_guard y0 y1 y2 y3 y4 y5 y6 y7 z0 z1 z2 z3 z4 z5 z6 z7 .eql o p w
          rcases HWAY.out with g1 | ⟨g1, g2, g3, g4, g5, g6, g7⟩ | ⟨g1, g2, g3, g4, g5, g6, g7⟩
          · clear HWAY
            go_wp2_with fail
            refine (same_any x0 x1 x2 x3 x4 x5 x6 x7 u0 u1 u2 u3 u4 u5 u6 u7 _ _).mono ?_
            rintro e w4 ⟨rfl, hb4⟩
            rw [g1]
            go_wp2_with fail
            go_ret
            exact ⟨rfl, (by repeat (first | (with_reducible exact grow_refl _) | (with_reducible assumption) | (with_reducible refine grow_alloc ?_ _) | (with_reducible refine grow_set ?_ (by first | exact Nat.le_refl _ | (simp; done) | (simp; omega) | omega) _) | (with_reducible refine grow_drewN ?_ _) | (with_reducible refine grow_drew ?_) | (with_reducible refine grow_step ?_ (by assumption)) | (with_reducible refine grow_base ?_ (by assumption))))⟩
          all_goals
            clear HWAY
            have G := Lib.hid (And.intro g1 (And.intro g2 (And.intro g3 (And.intro g4 (And.intro g5 (And.intro g6 g7))))))
            clear g1 g2 g3 g4 g5 g6 g7
            go_wp2_with fail
            clear c3 l3 d3 m3
            refine (same_any x0 x1 x2 x3 x4 x5 x6 x7 u0 u1 u2 u3 u4 u5 u6 u7 _ _).mono ?_
            rintro e w4 ⟨rfl, hb4⟩
            rw [G.out.1, G.out.2.2.2.2.1]
            have BB4 := BB3'.below hb4
            have CC4 := CC3'.below hb4
            have c4 := BB4.cell; have l4 := BB4.lt
            go_wp2_with fail
            clear c4 l4
            refine (digest_any x0 x1 x2 x3 x4 x5 x6 x7 _ _).mono ?_
            rintro e w5 ⟨rfl, hb5⟩
            rw [G.out.2.1]
            have BB5 := BB4.below hb5
            have CC5 := CC4.below hb5
            have d5 := CC5.cell; have m5 := CC5.lt
            go_wp2_with fail
            clear d5 m5
            refine (digest_any u0 u1 u2 u3 u4 u5 u6 u7 _ _).mono ?_
            rintro e w6 ⟨rfl, hb6⟩
            rw [G.out.2.2.1]
            have BB6 := BB5.below hb6
            have CC6 := CC5.below hb6
            have c6 := BB6.cell; have l6 := BB6.lt; have d6 := CC6.cell; have m6 := CC6.lt
            go_wp2_with fail
            clear c6 l6 d6 m6
            refine (same_any x0 x1 x2 x3 x4 x5 x6 x7 u0 u1 u2 u3 u4 u5 u6 u7 _ _).mono ?_
            rintro e w7 ⟨rfl, hb7⟩
            rw [G.out.2.2.2.1]
            have BB7 := BB6.below hb7
            have CC7 := CC6.below hb7
            have c7 := BB7.cell; have l7 := BB7.lt; have d7 := CC7.cell; have m7 := CC7.lt
            have q6 := G.out.2.2.2.2.2.1
            have q7 := G.out.2.2.2.2.2.2
            have rq := fun w => run_eq8_eql x0 x1 x2 x3 x4 x5 x6 x7 u0 u1 u2 u3 u4 u5 u6 u7 w
            have rg := fun o p w => run_eq8_guard x0 x1 x2 x3 x4 x5 x6 x7 u0 u1 u2 u3 u4 u5 u6 u7 .eql o p w
            go_wp2_with fail
            all_goals go_ret
            all_goals exact ⟨bool_lit (by simp), (by repeat (first | (with_reducible exact grow_refl _) | (with_reducible assumption) | (with_reducible refine grow_alloc ?_ _) | (with_reducible refine grow_set ?_ (by first | exact Nat.le_refl _ | (simp; done) | (simp; omega) | omega) _) | (with_reducible refine grow_drewN ?_ _) | (with_reducible refine grow_drew ?_) | (with_reducible refine grow_step ?_ (by assumption)) | (with_reducible refine grow_base ?_ (by assumption))))⟩

set_option maxRecDepth 100000 in
theorem bankForward_walks (H : Type) (enc : TypeId × Value → H) : Walks enc Try.prog 14 Try.f14 := by
  intro W base args ds p hval hA hlt hsz hsh
  have hsz0 := hsz
  rw [Try.params14] at hA hval
  obtain ⟨v0, vs0, d0, ds0, p0, q0, hargs, rfl, rfl, h0, r0⟩ := trodAll_cons hA
  obtain ⟨v1, vs1, d1, ds1, p1, q1, rfl, rfl, rfl, h1, r1⟩ := trodAll_cons r0
  obtain ⟨v2, vs2, d2, ds2, p2, q2, rfl, rfl, rfl, h2, r2⟩ := trodAll_cons r1
  obtain ⟨v3, vs3, d3, ds3, p3, q3, rfl, rfl, rfl, h3, r3⟩ := trodAll_cons r2
  obtain ⟨v4, vs4, d4, ds4, p4, q4, rfl, rfl, rfl, h4, r4⟩ := trodAll_cons r3
  obtain ⟨v5, vs5, d5, ds5, p5, q5, rfl, rfl, rfl, h5, r5⟩ := trodAll_cons r4
  obtain ⟨rfl, rfl, rfl⟩ := trodAll_nil r5
  obtain rfl : args = #[v0, v1, v2, v3, v4, v5] := by cases args; simp_all
  obtain ⟨x00, x01, x02, x03, x04, x05, x06, x07, rfl, i00, i01, i02, i03, i04, i05, i06, i07⟩ := op_bank (hval 0 50 v0 rfl rfl)
  obtain ⟨a1, rfl, w1⟩ := op_int (hval 1 3 v1 rfl rfl) h1
  obtain ⟨a2, rfl, w2⟩ := op_int (hval 2 3 v2 rfl rfl) h2
  obtain ⟨a3, rfl, w3⟩ := op_int (hval 3 3 v3 rfl rfl) h3
  obtain ⟨a4, rfl, w4⟩ := op_int (hval 4 3 v4 rfl rfl) h4
  obtain ⟨x50, x51, x52, x53, x54, x55, x56, x57, rfl, i50, i51, i52, i53, i54, i55, i56, i57⟩ := op_bank (hval 5 50 v5 rfl rfl)
  exact bankForward_walk W x00 x01 x02 x03 x04 x05 x06 x07 a1 a2 a3 a4 x50 x51 x52 x53 x54 x55 x56 x57 w1 w2 w3 w4

set_option maxRecDepth 100000 in
theorem bankForward_lifted (os : Os) (started : os.Started) (H : Type) (enc : TypeId × Value → H) :
    ReturnsInHanded {} Try.checked os 14 .any (Rows.bankForwardSpec.pre6 enc Try.prog Try.f14 Rows.bankForwardRow.domain false) (Rows.bankForwardSpec.post enc Try.prog Try.f14 false true false false) :=
  returns_of_walk (C := Try.checked) (s := Rows.bankForwardSpec) own started (by kernel_rfl) Try.func14
    (ChangeSpec.witness6 (enc := enc) (C := Try.checked) false ⟨#[], #[.agg #[.int .i64 0, .int .i64 0, .int .i64 0, .int .i64 0, .int .i64 0, .int .i64 0, .int .i64 0, .int .i64 0], .int .i64 0, .int .i64 0, .int .i64 0, .int .i64 0, .agg #[.int .i64 0, .int .i64 0, .int .i64 0, .int .i64 0, .int .i64 0, .int .i64 0, .int .i64 0, .int .i64 0]], []⟩ 8 (by kernel_rfl) (by kernel_rfl) (by kernel_rfl) (by kernel_rfl))
    laidOut (by kernel_rfl) (by kernel_rfl) Try.underlying4 rfl (fun ds h => by match ds, h with | [_, _, _, _, _, _], _ => rfl) (bankForward_walks H enc)

theorem bankForward_holds : Rows.BankForwardSaid :=
  OpenClaim.holds_of_wide 14 Try.f14 rfl rfl rfl rfl rfl rfl rfl ⟨rfl, rfl, rfl, rfl, rfl⟩ rfl rfl rfl rfl rfl (by kernel_rfl) Try.func14 (by kernel_rfl)
    (of_decide_eq_true (by kernel_rfl)) (by unfold Func.isWrapper; rw [if_neg (of_decide_eq_false (by kernel_rfl))]; exact ⟨rfl, rfl⟩)
    (fun os started H enc _ => bankForward_lifted os started H enc)

end Go.Proofs.Ytfklbifgjpocnaa
