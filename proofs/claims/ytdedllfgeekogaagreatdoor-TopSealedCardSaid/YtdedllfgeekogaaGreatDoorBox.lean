/- The walks of package box. -/
import Derived.Test.YtdedllfgeekogaaGreatDoorRows
import Derived.Test.YtdedllfgeekogaaGreatDoorNum
import Derived.Test.YtdedllfgeekogaaGreatDoorBase
import Derived.Test.YtdedllfgeekogaaGreatDoorMeas
import Derived.Test.YtdedllfgeekogaaGreatDoorBank
import Derived.WalkKit
import Derived.Lib.Hide
import Derived.IntWalk
import Derived.Deep.QuietTactic
import Derived.BigQuiet
namespace Go.Proofs.YtdedllfgeekogaaGreatDoor
open Go.RowKit

theorem quiet_add_same {P : Program} {f : FuncId} {args : Array Value} {w : World} {a n : Nat} {v : Value}
    (h : Calls P f args (w.drewN (a + n)) fun e w' => e = .returned v ∧ w' = w.drewN (a + n)) :
    Calls P f args (w.drewN (a + n)) fun e w'' => e = .returned v ∧ ∃ m, w'' = w.drewN (a + m) :=
  h.mono fun _ _ ⟨he, hm⟩ => ⟨he, n, hm⟩

set_option maxHeartbeats 1000000 in
theorem close_any (s m : Int) (x0 x1 x2 x3 x4 x5 x6 x7 : Int) (w : World) :
    Calls Tryz.prog 13 #[.int .i64 s, .int .i64 m, .agg #[.int .i64 x0, .int .i64 x1, .int .i64 x2, .int .i64 x3, .int .i64 x4, .int .i64 x5, .int .i64 x6, .int .i64 x7]] w fun e w' => e = .returned (.tuple #[.agg #[.int .i64 (clM s m [x0, x1, x2, x3, x4, x5, x6, x7]), .int .i64 (clL s m [x0, x1, x2, x3, x4, x5, x6, x7]), .int .i64 (clI s m [x0, x1, x2, x3, x4, x5, x6, x7])], errV (clE s m [x0, x1, x2, x3, x4, x5, x6, x7])]) ∧ Below w.heap.size w w' := by
  have en := fun k w => err_neq k w
  have gn := fun o k w => err_guard_neq o k w
  cases hs : okM s
  · have HF : Hid (clM s m [x0, x1, x2, x3, x4, x5, x6, x7] = 0 ∧ clL s m [x0, x1, x2, x3, x4, x5, x6, x7] = 0 ∧ clI s m [x0, x1, x2, x3, x4, x5, x6, x7] = 0 ∧ clE s m [x0, x1, x2, x3, x4, x5, x6, x7] = 1) := Lib.hid (by unfold clM clL clI clE clOk; rw [hs]; exact ⟨rfl, rfl, rfl, rfl⟩)
    go_enter Tryz.func13, Tryz.ntmps13
    go_wp2_with (go_at_call 58; refine (mIs_any _ _).mono ?_; rintro e w' ⟨rfl, rfl⟩)
    rw [HF.out.1, HF.out.2.1, HF.out.2.2.1, HF.out.2.2.2]
    have bz : Box (((w.alloc (.cells #[.int .i64 x0, .int .i64 x1, .int .i64 x2, .int .i64 x3, .int .i64 x4, .int .i64 x5, .int .i64 x6, .int .i64 x7] 44)).alloc (.cells #[.int .i64 0, .int .i64 0, .int .i64 0] 48))) (w.heap.size + 1) 48 #[.int .i64 0, .int .i64 0, .int .i64 0] := by
      have := Box.new (w.alloc (.cells #[.int .i64 x0, .int .i64 x1, .int .i64 x2, .int .i64 x3, .int .i64 x4, .int .i64 x5, .int .i64 x6, .int .i64 x7] 44)) 48 #[.int .i64 0, .int .i64 0, .int .i64 0]
      simpa using this
    refine bodyPost_ret (v := .tuple #[.agg #[.int .i64 0, .int .i64 0, .int .i64 0], errV 1]) (ret_cell_tmp Tryz.results13 rfl bz Tryz.underlying48 rfl (by kernel_rfl)) rfl ?_
    exact ⟨rfl, (by repeat (first | (with_reducible exact grow_refl _) | (with_reducible assumption) | (with_reducible refine grow_alloc ?_ _) | (with_reducible refine grow_set ?_ (by first | exact Nat.le_refl _ | (simp; done) | (simp; omega) | omega) _) | (with_reducible refine grow_drewN ?_ _) | (with_reducible refine grow_drew ?_) | (with_reducible refine grow_step ?_ (by assumption)) | (with_reducible refine grow_base ?_ (by assumption))))⟩
  · rcases digE_01 [x0, x1, x2, x3, x4, x5, x6, x7] m with hd | hd
    · have HF : Hid (clM s m [x0, x1, x2, x3, x4, x5, x6, x7] = m ∧ clL s m [x0, x1, x2, x3, x4, x5, x6, x7] = pairM (digM [x0, x1, x2, x3, x4, x5, x6, x7] m) 1 ∧ clI s m [x0, x1, x2, x3, x4, x5, x6, x7] = (s + pairM (digM [x0, x1, x2, x3, x4, x5, x6, x7] m) 2) % 1000003 ∧ clE s m [x0, x1, x2, x3, x4, x5, x6, x7] = 0) := Lib.hid (by unfold clM clL clI clE clOk; rw [hs, hd]; exact ⟨rfl, rfl, rfl, rfl⟩)
      have hok := digM_ok [x0, x1, x2, x3, x4, x5, x6, x7] m
      obtain ⟨d, hdm⟩ : ∃ d, digM [x0, x1, x2, x3, x4, x5, x6, x7] m = d := ⟨_, rfl⟩
      rw [hdm] at HF hok
      obtain ⟨s1, s2⟩ := okM_yes hs
      obtain ⟨p1, p2⟩ := okM_yes (pairM_ok d 2)
      have HD := Lib.hid (And.intro hd hdm)
      clear hd hdm
      go_enter Tryz.func13, Tryz.ntmps13
      go_wp2_with (first | (go_at_call 58; refine (mIs_any _ _).mono ?_; rintro e w' ⟨rfl, rfl⟩) | (go_at_call 59; refine (digest_any x0 x1 x2 x3 x4 x5 x6 x7 _ _).mono ?_; rintro e w1 ⟨rfl, hb1⟩; rw [HD.out.1, HD.out.2]; have bz : Box w1 (w.heap.size + 1) 48 #[.int .i64 0, .int .i64 0, .int .i64 0] := (by have := (Box.new (w.alloc (.cells #[.int .i64 x0, .int .i64 x1, .int .i64 x2, .int .i64 x3, .int .i64 x4, .int .i64 x5, .int .i64 x6, .int .i64 x7] 44)) 48 #[.int .i64 0, .int .i64 0, .int .i64 0]).below hb1; simpa using this); have cz := bz.cell; have fz := bz.frozen; have lz := bz.lt) | (go_at_call 60; refine (pair_any _ _ _ hok (by decide)).mono ?_; rintro e w' ⟨rfl, rfl⟩))
      rw [HF.out.1, HF.out.2.1, HF.out.2.2.1, HF.out.2.2.2]
      refine bodyPost_ret (v := .tuple #[.agg #[.int .i64 m, .int .i64 (pairM d 1), .int .i64 ((s + pairM d 2) % 1000003)], errV 0]) (ret_cell_tmp Tryz.results13 rfl (bz.fill3 _ _ _) Tryz.underlying48 rfl (by kernel_rfl)) rfl ?_
      exact ⟨rfl, (by repeat (first | (with_reducible exact grow_refl _) | (with_reducible assumption) | (with_reducible refine grow_alloc ?_ _) | (with_reducible refine grow_set ?_ (by first | exact Nat.le_refl _ | (simp; done) | (simp; omega) | omega) _) | (with_reducible refine grow_drewN ?_ _) | (with_reducible refine grow_drew ?_) | (with_reducible refine grow_step ?_ (by assumption)) | (with_reducible refine grow_base ?_ (by assumption))))⟩
    · have HF : Hid (clM s m [x0, x1, x2, x3, x4, x5, x6, x7] = 0 ∧ clL s m [x0, x1, x2, x3, x4, x5, x6, x7] = 0 ∧ clI s m [x0, x1, x2, x3, x4, x5, x6, x7] = 0 ∧ clE s m [x0, x1, x2, x3, x4, x5, x6, x7] = 1) := Lib.hid (by unfold clM clL clI clE clOk; rw [hs, hd]; exact ⟨rfl, rfl, rfl, rfl⟩)
      have HD := Lib.hid hd
      clear hd
      go_enter Tryz.func13, Tryz.ntmps13
      go_wp2_with (first | (go_at_call 58; refine (mIs_any _ _).mono ?_; rintro e w' ⟨rfl, rfl⟩) | (go_at_call 59; refine (digest_any x0 x1 x2 x3 x4 x5 x6 x7 _ _).mono ?_; rintro e w1 ⟨rfl, hb1⟩; rw [HD.out]; have bz : Box w1 (w.heap.size + 1) 48 #[.int .i64 0, .int .i64 0, .int .i64 0] := (by have := (Box.new (w.alloc (.cells #[.int .i64 x0, .int .i64 x1, .int .i64 x2, .int .i64 x3, .int .i64 x4, .int .i64 x5, .int .i64 x6, .int .i64 x7] 44)) 48 #[.int .i64 0, .int .i64 0, .int .i64 0]).below hb1; simpa using this); have cz := bz.cell; have fz := bz.frozen; have lz := bz.lt))
      rw [HF.out.1, HF.out.2.1, HF.out.2.2.1, HF.out.2.2.2]
      refine bodyPost_ret (v := .tuple #[.agg #[.int .i64 0, .int .i64 0, .int .i64 0], errV 1]) (ret_cell_tmp Tryz.results13 rfl (bz.fill3 _ _ _) Tryz.underlying48 rfl (by kernel_rfl)) rfl ?_
      exact ⟨rfl, (by repeat (first | (with_reducible exact grow_refl _) | (with_reducible assumption) | (with_reducible refine grow_alloc ?_ _) | (with_reducible refine grow_set ?_ (by first | exact Nat.le_refl _ | (simp; done) | (simp; omega) | omega) _) | (with_reducible refine grow_drewN ?_ _) | (with_reducible refine grow_drew ?_) | (with_reducible refine grow_step ?_ (by assumption)) | (with_reducible refine grow_base ?_ (by assumption))))⟩

set_option maxHeartbeats 1000000 in
theorem open_any (m l n : Int) (x0 x1 x2 x3 x4 x5 x6 x7 : Int) (w : World) :
    Calls Tryz.prog 17 #[.agg #[.int .i64 m, .int .i64 l, .int .i64 n], .agg #[.int .i64 x0, .int .i64 x1, .int .i64 x2, .int .i64 x3, .int .i64 x4, .int .i64 x5, .int .i64 x6, .int .i64 x7]] w fun e w' => e = .returned (.tuple #[.int .i64 (opM m l n [x0, x1, x2, x3, x4, x5, x6, x7]), errV (opE m l n [x0, x1, x2, x3, x4, x5, x6, x7])]) ∧ Below w.heap.size w w' := by
  have en := fun k w => err_neq k w
  have gn := fun o k w => err_guard_neq o k w
  cases hl : okM l
  · have HF : Hid (opM m l n [x0, x1, x2, x3, x4, x5, x6, x7] = 0 ∧ opE m l n [x0, x1, x2, x3, x4, x5, x6, x7] = 1) := Lib.hid (by unfold opM opE; rw [hl]; exact ⟨rfl, rfl⟩)
    go_enter Tryz.func17, Tryz.ntmps17
    go_wp2_with (go_at_call 58; refine (mIs_any _ _).mono ?_; rintro e w' ⟨rfl, rfl⟩)
    go_ret2
    exact ⟨by rw [HF.out.1, HF.out.2]; rfl, (by repeat (first | (with_reducible exact grow_refl _) | (with_reducible assumption) | (with_reducible refine grow_alloc ?_ _) | (with_reducible refine grow_set ?_ (by first | exact Nat.le_refl _ | (simp; done) | (simp; omega) | omega) _) | (with_reducible refine grow_drewN ?_ _) | (with_reducible refine grow_drew ?_) | (with_reducible refine grow_step ?_ (by assumption)) | (with_reducible refine grow_base ?_ (by assumption))))⟩
  · cases hn : okM n
    · have HF : Hid (opM m l n [x0, x1, x2, x3, x4, x5, x6, x7] = 0 ∧ opE m l n [x0, x1, x2, x3, x4, x5, x6, x7] = 1) := Lib.hid (by unfold opM opE; rw [hl, hn]; exact ⟨rfl, rfl⟩)
      go_enter Tryz.func17, Tryz.ntmps17
      go_wp2_with (go_at_call 58; refine (mIs_any _ _).mono ?_; rintro e w' ⟨rfl, rfl⟩)
      go_ret2
      exact ⟨by rw [HF.out.1, HF.out.2]; rfl, (by repeat (first | (with_reducible exact grow_refl _) | (with_reducible assumption) | (with_reducible refine grow_alloc ?_ _) | (with_reducible refine grow_set ?_ (by first | exact Nat.le_refl _ | (simp; done) | (simp; omega) | omega) _) | (with_reducible refine grow_drewN ?_ _) | (with_reducible refine grow_drew ?_) | (with_reducible refine grow_step ?_ (by assumption)) | (with_reducible refine grow_base ?_ (by assumption))))⟩
    · rcases digE_01 [x0, x1, x2, x3, x4, x5, x6, x7] m with hd | hd
      · have hok := digM_ok [x0, x1, x2, x3, x4, x5, x6, x7] m
        obtain ⟨d, hdm⟩ : ∃ d, digM [x0, x1, x2, x3, x4, x5, x6, x7] m = d := ⟨_, rfl⟩
        rw [hdm] at hok
        obtain ⟨n1, n2⟩ := okM_yes hn
        obtain ⟨p1, p2⟩ := okM_yes (pairM_ok d 2)
        by_cases he : pairM d 1 = l
        · have HF : Hid (opM m l n [x0, x1, x2, x3, x4, x5, x6, x7] = (n - pairM d 2 + 1000003) % 1000003 ∧ opE m l n [x0, x1, x2, x3, x4, x5, x6, x7] = 0) := Lib.hid (by unfold opM opE; rw [hl, hn, hd, hdm, if_pos he]; exact ⟨rfl, rfl⟩)
          have t : (pairM d 1 != l) = false := by simp [he]
          have HD := Lib.hid (And.intro hd hdm)
          clear hd hdm he
          go_enter Tryz.func17, Tryz.ntmps17
          go_wp2_with (first | (go_at_call 58; refine (mIs_any _ _).mono ?_; rintro e w' ⟨rfl, rfl⟩) | (go_at_call 59; refine (digest_any x0 x1 x2 x3 x4 x5 x6 x7 _ _).mono ?_; rintro e w1 ⟨rfl, hb1⟩; rw [HD.out.1, HD.out.2]; have bx : Box w1 w.heap.size 48 #[.int .i64 m, .int .i64 l, .int .i64 n] := ((Box.new _ _ _).below (grow_alloc (grow_refl _) _)).below hb1; have cx := bx.cell; have lx := bx.lt))
          go_wp2
          go_quiet ((go_at_call 60; exact Calls.quiet_of_same ((pair_any _ _ _ hok (by decide)).mono (fun _ _ h => ⟨h.1, h.2.symm⟩))))
          go_wp2
          have q1 : IntKind.i64.wrap (n - pairM d 2) = n - pairM d 2 := IntWalk.i64_in _ (by omega)
          have q2 : IntKind.i64.wrap (n - pairM d 2 + 1000003) = n - pairM d 2 + 1000003 := IntWalk.i64_in _ (by omega)
          have q3 : (0 : Int) ≤ n - pairM d 2 + 1000003 := by omega
          go_quiet ((go_at_call 60; exact quiet_add_same ((pair_any _ _ _ hok (by decide)).mono (fun _ _ h => ⟨h.1, h.2.symm⟩))))
          clear q1 q2
          go_wp2
          go_ret2
          exact ⟨by rw [HF.out.1, HF.out.2, ← Int.tmod_eq_emod_of_nonneg q3]; rfl, (by repeat (first | (with_reducible exact grow_refl _) | (with_reducible assumption) | (with_reducible refine grow_alloc ?_ _) | (with_reducible refine grow_set ?_ (by first | exact Nat.le_refl _ | (simp; done) | (simp; omega) | omega) _) | (with_reducible refine grow_drewN ?_ _) | (with_reducible refine grow_drew ?_) | (with_reducible refine grow_step ?_ (by assumption)) | (with_reducible refine grow_base ?_ (by assumption))))⟩
        · have HF : Hid (opM m l n [x0, x1, x2, x3, x4, x5, x6, x7] = 0 ∧ opE m l n [x0, x1, x2, x3, x4, x5, x6, x7] = 8) := Lib.hid (by unfold opM opE; rw [hl, hn, hd, hdm, if_neg he]; exact ⟨rfl, rfl⟩)
          have t : (pairM d 1 != l) = true := by simp [he]
          have HD := Lib.hid (And.intro hd hdm)
          clear hd hdm he
          go_enter Tryz.func17, Tryz.ntmps17
          go_wp2_with (first | (go_at_call 58; refine (mIs_any _ _).mono ?_; rintro e w' ⟨rfl, rfl⟩) | (go_at_call 59; refine (digest_any x0 x1 x2 x3 x4 x5 x6 x7 _ _).mono ?_; rintro e w1 ⟨rfl, hb1⟩; rw [HD.out.1, HD.out.2]; have bx : Box w1 w.heap.size 48 #[.int .i64 m, .int .i64 l, .int .i64 n] := ((Box.new _ _ _).below (grow_alloc (grow_refl _) _)).below hb1; have cx := bx.cell; have lx := bx.lt))
          go_wp2
          go_quiet ((go_at_call 60; exact Calls.quiet_of_same ((pair_any _ _ _ hok (by decide)).mono (fun _ _ h => ⟨h.1, h.2.symm⟩))))
          go_wp2
          go_ret2
          exact ⟨by rw [HF.out.1, HF.out.2]; rfl, (by repeat (first | (with_reducible exact grow_refl _) | (with_reducible assumption) | (with_reducible refine grow_alloc ?_ _) | (with_reducible refine grow_set ?_ (by first | exact Nat.le_refl _ | (simp; done) | (simp; omega) | omega) _) | (with_reducible refine grow_drewN ?_ _) | (with_reducible refine grow_drew ?_) | (with_reducible refine grow_step ?_ (by assumption)) | (with_reducible refine grow_base ?_ (by assumption))))⟩
      · have HF : Hid (opM m l n [x0, x1, x2, x3, x4, x5, x6, x7] = 0 ∧ opE m l n [x0, x1, x2, x3, x4, x5, x6, x7] = 1) := Lib.hid (by unfold opM opE; rw [hl, hn, hd]; exact ⟨rfl, rfl⟩)
        have HD := Lib.hid hd
        clear hd
        go_enter Tryz.func17, Tryz.ntmps17
        go_wp2_with (first | (go_at_call 58; refine (mIs_any _ _).mono ?_; rintro e w' ⟨rfl, rfl⟩) | (go_at_call 59; refine (digest_any x0 x1 x2 x3 x4 x5 x6 x7 _ _).mono ?_; rintro e w1 ⟨rfl, hb1⟩; rw [HD.out]))
        go_ret2
        exact ⟨by rw [HF.out.1, HF.out.2]; rfl, (by repeat (first | (with_reducible exact grow_refl _) | (with_reducible assumption) | (with_reducible refine grow_alloc ?_ _) | (with_reducible refine grow_set ?_ (by first | exact Nat.le_refl _ | (simp; done) | (simp; omega) | omega) _) | (with_reducible refine grow_drewN ?_ _) | (with_reducible refine grow_drew ?_) | (with_reducible refine grow_step ?_ (by assumption)) | (with_reducible refine grow_base ?_ (by assumption))))⟩

end Go.Proofs.YtdedllfgeekogaaGreatDoor
