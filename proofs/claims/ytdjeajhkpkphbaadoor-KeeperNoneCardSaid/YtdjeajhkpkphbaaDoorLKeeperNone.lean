/- KeeperNone: who was not asked is given nothing. The package variable errors.errorType holds what the program's text lays. -/
import Derived.Test.YtdjeajhkpkphbaaDoorRows
import Derived.Test.YtdjeajhkpkphbaaDoorOpen
import Derived.Test.YtdjeajhkpkphbaaDoorOpS
import Derived.Test.YtdjeajhkpkphbaaDoorBank
import Derived.Test.YtdjeajhkpkphbaaDoorKey
import Derived.Test.YtdjeajhkpkphbaaDoorRule
import Derived.Test.YtdjeajhkpkphbaaDoorRule2
import Derived.Test.YtdjeajhkpkphbaaDoorTold
import Derived.Test.YtdjeajhkpkphbaaDoorBds
import Derived.Test.YtdjeajhkpkphbaaDoorLiftD
import Derived.WalkKit
import Derived.Lib.Hide
import Derived.Deep.QuietTactic
import Derived.BigQuiet
namespace Go.Proofs.YtdjeajhkpkphbaaDoor
open Go.ChangeShapes Go.WideShapes Go.ChangeAt Go.RowKit
set_option linter.unusedVariables false
set_option maxRecDepth 100000

set_option maxHeartbeats 400000 in
theorem nonceNew_five (w : World) :
    Calls Tryd.prog 31 #[.int .i64 5] w fun e w' => e = .returned (.tuple #[.pointer (some ⟨w.heap.size, 0, none⟩), errV 0]) ∧ w' = w.alloc (.cells #[.int .i64 5, .int .i64 0, .slice none 0 0] 109) := by
  have h5 : okM 5 = true := by decide
  go_enter Tryd.func31, Tryd.ntmps31
  go_wp2_with (go_at_call 44; refine (mIs_any _ _).mono ?_; rintro e w' ⟨rfl, rfl⟩; rw [h5])
  go_ret2
  exact ⟨rfl, rfl⟩

set_option maxHeartbeats 400000 in
theorem useNone_any (g : Nat) (s x : Int) (w : World) (hB : Box w g 109 #[.int .i64 s, .int .i64 0, .slice none 0 0]) :
    Calls Tryd.prog 34 #[.pointer (some ⟨g, 0, none⟩), .int .i64 x] w fun e w' => e = .returned (errV 5) ∧ w = w' := by
  have cB := hB.cell
  have lB := hB.lt
  go_enter Tryd.func34, Tryd.ntmps34
  go_wp2_with fail
  refine (index_any none 0 [] x _ (IntsAt.nil_ _ _) (by simp)).mono ?_
  rintro e w1 ⟨i, rfl, h1, h2, h3, h4, rfl⟩
  have h5 : i < 0 := h4 rfl
  go_wp2_with fail
  go_ret
  exact ⟨rfl, rfl⟩

theorem eql_noRules (w : World) : (binOp .eql 55 (.slice none 0 0) (.slice none 0 0)).run Tryd.prog w = .ok (.bool true) w := by kernel_rfl
set_option maxHeartbeats 400000 in
theorem cloneNone_any (w : World) :
    Calls Tryd.prog 91 #[.slice none 0 0] w fun e w' => e = .returned (.slice none 0 0) ∧ w = w' := by
  have es := fun w => eql_noRules w
  go_enter Tryd.func91, Tryd.ntmps91
  go_wp2_with fail
  go_ret
  exact ⟨rfl, rfl⟩

set_option maxHeartbeats 400000 in
theorem ownNone_any (w : World) :
    Calls Tryd.prog 77 #[.slice none 0 0] w fun e w' => e = .returned (.slice none 0 0) ∧ w = w' := by
  go_enter Tryd.func77, Tryd.ntmps77
  go_wp2_with (go_at_call 91; refine (cloneNone_any _).mono ?_; rintro e w' ⟨rfl, rfl⟩)
  go_loop [10] (fun i => i = .int .i64 0) (fun _ => 0)
  case atStart => rfl
  case round =>
    obtain rfl := hrel
    go_wp2_with fail
    go_ret
    exact ⟨rfl, rfl⟩

set_option maxHeartbeats 1000000 in
theorem keeperNew_yes (p s : Int) (w : World) (h1 : okIn p = true) (h2 : okM s = true) :
    Calls Tryd.prog 37 #[.int .i64 p, .int .i64 s, .int .i64 5, .slice none 0 0] w fun e w' => ∃ g k : Nat, e = .returned (.tuple #[.pointer (some ⟨k, 0, none⟩), errV 0]) ∧ Box w' g 109 #[.int .i64 5, .int .i64 0, .slice none 0 0] ∧ Box w' k 114 #[.pointer (some ⟨g, 0, none⟩), .int .i64 p, .int .i64 s, .int .i64 0, .slice none 0 0] ∧ Below w.heap.size w w' := by
  have en := fun k w => err_neq k w
  have gn := fun o k w => err_guard_neq o k w
  have hr : rulesE [] = 0 := by decide
  go_enter Tryd.func37, Tryd.ntmps37
  go_wp2_with (first | (go_at_call 76; refine (in_any _ _).mono ?_; rintro e w' ⟨rfl, rfl⟩; rw [h1]) | (go_at_call 44; refine (mIs_any _ _).mono ?_; rintro e w' ⟨rfl, rfl⟩; rw [h2]) | (go_at_call 31; refine (nonceNew_five _).mono ?_; rintro e w' ⟨rfl, rfl⟩))
  have BN := Box.new w 109 #[.int .i64 5, .int .i64 0, .slice none 0 0]
  refine (ruleCheck_any none 0 [] _ (RulesAt.nil_ _ _) (by simp) (by simp) (by simp)).mono ?_
  rintro e w1 ⟨rfl, hb1⟩
  rw [hr]
  have B1 := BN.below hb1
  go_wp2_with (go_at_call 77; refine (ownNone_any _).mono ?_; rintro e w' ⟨rfl, rfl⟩)
  go_ret2
  exact ⟨_, _, rfl, B1.alloc_ _, Box.new _ _ _, (by repeat (first | (with_reducible exact grow_refl _) | (with_reducible assumption) | (with_reducible refine grow_alloc ?_ _) | (with_reducible refine grow_set ?_ (by first | exact Nat.le_refl _ | (simp; done) | (simp; omega) | omega) _) | (with_reducible refine grow_drewN ?_ _) | (with_reducible refine grow_drew ?_) | (with_reducible refine grow_step ?_ (by assumption)) | (with_reducible refine grow_base ?_ (by assumption))))⟩

set_option maxHeartbeats 1000000 in
theorem keeperNew_no (p s : Int) (w : World) (h : (okIn p && okM s) = false) :
    Calls Tryd.prog 37 #[.int .i64 p, .int .i64 s, .int .i64 5, .slice none 0 0] w fun e w' => e = .returned (.tuple #[.pointer none, errV 1]) ∧ w = w' := by
  cases h1 : okIn p
  · go_enter Tryd.func37, Tryd.ntmps37
    go_wp2_with (go_at_call 76; refine (in_any _ _).mono ?_; rintro e w' ⟨rfl, rfl⟩; rw [h1])
    go_ret2
    exact ⟨rfl, rfl⟩
  · have h2 : okM s = false := by rw [h1] at h; exact h
    go_enter Tryd.func37, Tryd.ntmps37
    go_wp2_with (first | (go_at_call 76; refine (in_any _ _).mono ?_; rintro e w' ⟨rfl, rfl⟩; rw [h1]) | (go_at_call 44; refine (mIs_any _ _).mono ?_; rintro e w' ⟨rfl, rfl⟩; rw [h2]))
    go_ret2
    exact ⟨rfl, rfl⟩

set_option maxHeartbeats 1000000 in
theorem giveNone_any (k g : Nat) (p s n m d pp a : Int) (w : World) (hg : Box w g 109 #[.int .i64 5, .int .i64 0, .slice none 0 0]) (hk : Box w k 114 #[.pointer (some ⟨g, 0, none⟩), .int .i64 p, .int .i64 s, .int .i64 0, .slice none 0 0]) :
    Calls Tryd.prog 38 #[.pointer (some ⟨k, 0, none⟩), .agg #[.int .i64 n, .int .i64 m, .int .i64 d, .int .i64 pp, .int .i64 a], .slice none 0 0] w fun e w' => e = .returned (.tuple #[.int .i64 0, errV 5]) ∧ Below w.heap.size w w' := by
  have en := fun k w => err_neq k w
  have gn := fun o k w => err_guard_neq o k w
  have HQ := Box.new w 41 #[.int .i64 n, .int .i64 m, .int .i64 d, .int .i64 pp, .int .i64 a]
  have HK := hk.alloc_ (.cells #[.int .i64 n, .int .i64 m, .int .i64 d, .int .i64 pp, .int .i64 a] 41)
  have HGG := hg.alloc_ (.cells #[.int .i64 n, .int .i64 m, .int .i64 d, .int .i64 pp, .int .i64 a] 41)
  have cQ := HQ.cell
  have lQ := HQ.lt
  have cK := HK.cell
  have lK := HK.lt
  go_enter Tryd.func38, Tryd.ntmps38
  go_wp2_with fail
  go_quiet ((go_at_call 34; exact Calls.quiet_of_same ((useNone_any _ _ _ _ (HGG.drewN_ _)).mono (fun _ _ h => ⟨h.1, h.2.symm⟩))))
  go_wp2_with fail
  go_ret2
  exact ⟨rfl, (by repeat (first | (with_reducible exact grow_refl _) | (with_reducible assumption) | (with_reducible refine grow_alloc ?_ _) | (with_reducible refine grow_set ?_ (by first | exact Nat.le_refl _ | (simp; done) | (simp; omega) | omega) _) | (with_reducible refine grow_drewN ?_ _) | (with_reducible refine grow_drew ?_) | (with_reducible refine grow_step ?_ (by assumption)) | (with_reducible refine grow_base ?_ (by assumption))))⟩

set_option maxHeartbeats 400000 in
theorem given_any (k : Nat) (x0 x1 x2 x4 : Value) (w : World) (hk : Box w k 114 #[x0, x1, x2, .int .i64 0, x4]) :
    Calls Tryd.prog 39 #[.pointer (some ⟨k, 0, none⟩)] w fun e w' => e = .returned (.int .i64 0) ∧ w = w' := by
  have cK := hk.cell
  have lK := hk.lt
  go_enter Tryd.func39, Tryd.ntmps39
  go_wp2_with fail
  go_ret
  exact ⟨rfl, rfl⟩

set_option maxHeartbeats 2000000 in
theorem keeperNone_walk (w : World) (p s n m d pp a : Int) (i0 : I64 p) (i1 : I64 s) (j1 : I64 n) (j2 : I64 m) (j3 : I64 d) (j4 : I64 pp) (j5 : I64 a) (hg : Door w) :
    Calls Tryd.prog 10 #[.int .i64 p, .int .i64 s, .agg #[.int .i64 n, .int .i64 m, .int .i64 d, .int .i64 pp, .int .i64 a]] w fun e w' => e = .returned (.bool true) ∧ Below w.heap.size w w' := by
  have en := fun k w => err_neq k w
  have gn := fun o k w => err_guard_neq o k w
  have HG := Lib.hid hg
  have HN := Lib.hid (Box.new w 41 #[.int .i64 n, .int .i64 m, .int .i64 d, .int .i64 pp, .int .i64 a])
  clear hg
  cases h : (okIn p && okM s)
  · go_enter Tryd.func10, Tryd.ntmps10
    go_wp2_with fail
    refine (keeperNew_no p s _ h).mono ?_
    rintro e w1 ⟨rfl, rfl⟩
    have hh : p < 1 ∨ 1542 < p ∨ s < 0 ∨ 1000002 < s := by
      cases h1 : okIn p
      · have := okIn_no h1; omega
      · rw [h1] at h; have := okM_no (show okM s = false from h); omega
    by_cases c1 : p < 1
    · go_wp2_with fail
      go_ret
      exact ⟨rfl, (by repeat (first | (with_reducible exact grow_refl _) | (with_reducible assumption) | (with_reducible refine grow_alloc ?_ _) | (with_reducible refine grow_set ?_ (by first | exact Nat.le_refl _ | (simp; done) | (simp; omega) | omega) _) | (with_reducible refine grow_drewN ?_ _) | (with_reducible refine grow_drew ?_) | (with_reducible refine grow_step ?_ (by assumption)) | (with_reducible refine grow_base ?_ (by assumption))))⟩
    · by_cases c2 : 1542 < p
      · go_wp2_with fail
        go_ret
        exact ⟨rfl, (by repeat (first | (with_reducible exact grow_refl _) | (with_reducible assumption) | (with_reducible refine grow_alloc ?_ _) | (with_reducible refine grow_set ?_ (by first | exact Nat.le_refl _ | (simp; done) | (simp; omega) | omega) _) | (with_reducible refine grow_drewN ?_ _) | (with_reducible refine grow_drew ?_) | (with_reducible refine grow_step ?_ (by assumption)) | (with_reducible refine grow_base ?_ (by assumption))))⟩
      · by_cases c3 : s < 0
        · go_wp2_with fail
          go_ret
          exact ⟨rfl, (by repeat (first | (with_reducible exact grow_refl _) | (with_reducible assumption) | (with_reducible refine grow_alloc ?_ _) | (with_reducible refine grow_set ?_ (by first | exact Nat.le_refl _ | (simp; done) | (simp; omega) | omega) _) | (with_reducible refine grow_drewN ?_ _) | (with_reducible refine grow_drew ?_) | (with_reducible refine grow_step ?_ (by assumption)) | (with_reducible refine grow_base ?_ (by assumption))))⟩
        · have c4 : 1000002 < s := by omega
          go_wp2_with fail
          go_ret
          exact ⟨rfl, (by repeat (first | (with_reducible exact grow_refl _) | (with_reducible assumption) | (with_reducible refine grow_alloc ?_ _) | (with_reducible refine grow_set ?_ (by first | exact Nat.le_refl _ | (simp; done) | (simp; omega) | omega) _) | (with_reducible refine grow_drewN ?_ _) | (with_reducible refine grow_drew ?_) | (with_reducible refine grow_step ?_ (by assumption)) | (with_reducible refine grow_base ?_ (by assumption))))⟩
  · obtain ⟨h1, h2⟩ := Bool.and_eq_true_iff.1 h
    go_enter Tryd.func10, Tryd.ntmps10
    go_wp2_with fail
    refine (keeperNew_yes p s _ h1 h2).mono ?_
    rintro e w1 ⟨g, k, rfl, BG, BK, hb1⟩
    have HQ := Lib.hid (HN.out.below hb1)
    have HGG := Lib.hid BG
    have HK := Lib.hid BK
    have cQ := HQ.out.cell
    have lQ := HQ.out.lt
    clear BG BK
    go_wp2_with fail
    clear cQ
    refine (giveNone_any k g p s n m d pp a _ HGG.out HK.out).mono ?_
    rintro e w2 ⟨rfl, hb2⟩
    have HK2 := Lib.hid (HK.out.below hb2)
    go_wp2_with fail
    refine (error_any 5 5 _ (HG.out.below (by repeat (first | (with_reducible exact grow_refl _) | (with_reducible assumption) | (with_reducible refine grow_alloc ?_ _) | (with_reducible refine grow_set ?_ (by first | exact Nat.le_refl _ | (simp; done) | (simp; omega) | omega) _) | (with_reducible refine grow_drewN ?_ _) | (with_reducible refine grow_drew ?_) | (with_reducible refine grow_step ?_ (by assumption)) | (with_reducible refine grow_base ?_ (by assumption))))) (i64_small (by decide) (by decide))).mono ?_
    rintro e w3 ⟨rfl, hb3⟩
    have HK3 := Lib.hid (HK2.out.below hb3)
    go_wp2_with (go_at_call 39; refine (given_any _ _ _ _ _ _ HK3.out).mono ?_; rintro e w' ⟨rfl, rfl⟩)
    go_ret
    exact ⟨rfl, (by repeat (first | (with_reducible exact grow_refl _) | (with_reducible assumption) | (with_reducible refine grow_alloc ?_ _) | (with_reducible refine grow_set ?_ (by first | exact Nat.le_refl _ | (simp; done) | (simp; omega) | omega) _) | (with_reducible refine grow_drewN ?_ _) | (with_reducible refine grow_drew ?_) | (with_reducible refine grow_step ?_ (by assumption)) | (with_reducible refine grow_base ?_ (by assumption))))⟩

set_option maxRecDepth 100000 in
theorem keeperNone_walks (H : Type) (enc : TypeId × Value → H) : WalksD enc Tryd.prog Door 10 Tryd.f10 := by
  intro W base args ds p hval hA hlt hsz hsh hdoor
  have hsz0 := hsz
  rw [Tryd.params10] at hA hval
  obtain ⟨v0, vs0, d0, ds0, p0, q0, hargs, rfl, rfl, h0, r0⟩ := trodAll_cons hA
  obtain ⟨v1, vs1, d1, ds1, p1, q1, rfl, rfl, rfl, h1, r1⟩ := trodAll_cons r0
  obtain ⟨v2, vs2, d2, ds2, p2, q2, rfl, rfl, rfl, h2, r2⟩ := trodAll_cons r1
  obtain ⟨rfl, rfl, rfl⟩ := trodAll_nil r2
  obtain rfl : args = #[v0, v1, v2] := by cases args; simp_all
  obtain ⟨a0, rfl, w0⟩ := op_int (hval 0 3 v0 rfl rfl) h0
  obtain ⟨a1, rfl, w1⟩ := op_int (hval 1 3 v1 rfl rfl) h1
  obtain ⟨s20, s21, s22, s23, s24, rfl, q20, q21, q22, q23, q24⟩ := op_quote (hval 2 41 v2 rfl rfl)
  exact keeperNone_walk W a0 a1 s20 s21 s22 s23 s24 w0 w1 q20 q21 q22 q23 q24 hdoor

set_option maxRecDepth 100000 in
theorem keeperNone_lifted (os : Os) (started : os.Started) (H : Type) (enc : TypeId × Value → H) :
    ReturnsInHanded {} Tryd.checked os 10 .any (fun w args => (Rows.keeperNoneSpec.pre enc Tryd.checked.prog Tryd.f10 [] false w args ∧ laidMetH Tryd.checked.prog LaidD w) ∧ sizedMet enc Tryd.checked.prog Tryd.f10 (OpenSpec.ofChange Rows.keeperNoneSpec) false w args) (Rows.keeperNoneSpec.post enc Tryd.checked.prog Tryd.f10 false true false false) :=
  returns_of_walkD (C := Tryd.checked) (s := Rows.keeperNoneSpec) (L := LaidD) (D := Door) own started (by kernel_rfl) Tryd.func10
    (ChangeSpec.witness_at (enc := enc) (C := Tryd.checked) (os := os) (X := fun w _ => laidMetH Tryd.prog LaidD w) false (laidWorld os) #[.int .i64 0, .int .i64 0, .agg #[.int .i64 0, .int .i64 0, .int .i64 0, .int .i64 0, .int .i64 0]] 8 rfl (by kernel_rfl) (by kernel_rfl) (by kernel_rfl) (by kernel_rfl) (by kernel_rfl) (laidWorld_met os _))
    (fun W h => door_of_laid h) laidOut (by kernel_rfl) rfl Tryd.underlying4 rfl (fun ds h => by match ds, h with | [_, _, _], _ => rfl) (keeperNone_walks H enc)

theorem keeperNone_bare : Rows.KeeperNoneSaid :=
  OpenClaim.holds_of_wide 10 Tryd.f10 rfl rfl rfl rfl rfl rfl rfl ⟨rfl, rfl, rfl, rfl, rfl⟩ rfl rfl rfl rfl rfl (by kernel_rfl) Tryd.func10 (by kernel_rfl)
    (of_decide_eq_true (by kernel_rfl)) (by unfold Func.isWrapper; rw [if_neg (of_decide_eq_false (by kernel_rfl))]; exact ⟨rfl, rfl⟩)
    (fun os started H enc _ => keeperNone_lifted os started H enc)

theorem keeperNone_holds : Rows.KeeperNoneCardSaid :=
  Claim7.holds_tied_plain_at .later [] [.handle] true Rows.keeperNoneCard.stood.harness true
    keeperNone_bare (fun _ h => by cases h) (by kernel_rfl) (fun _ h => by cases h) keeperNone_row_tie rfl ⟨rfl, rfl⟩ (by kernel_rfl) rfl
    (fun f fn hf hfn => by
      obtain rfl : f = 10 := Option.some.inj ((show Tryd.prog.funcNamed "bootstair/stairlaw4.KeeperNone" = some 10 by kernel_rfl).symm.trans hf) |>.symm
      obtain rfl : fn = Tryd.f10 := (Option.some.inj (Tryd.func10.symm.trans hfn)).symm
      exact ⟨by kernel_rfl, fun j t ht => by
        have hm : t ∈ Tryd.f10.params.toList := by simpa using Array.mem_of_getElem? ht
        have hall : (Tryd.f10.params.toList.all fun u => !Tryd.prog.wantsStandIn u) = true := by kernel_rfl
        exact (show Tryd.prog.wantsStandIn t = false by simpa using List.all_eq_true.1 hall t hm)⟩)
    (by kernel_rfl)

end Go.Proofs.YtdjeajhkpkphbaaDoor
