/- JudgeEmpty: a quote that nobody sealed is never sure. -/
import Derived.Test.YtebecndmlgolpaaRows
import Derived.Test.YtebecndmlgolpaaOpen
import Derived.Test.YtebecndmlgolpaaOpE
import Derived.Test.YtebecndmlgolpaaQuote2
import Derived.WalkKit
import Derived.Lib.Hide
namespace Go.Proofs.Ytebecndmlgolpaa
open Go.ChangeShapes Go.WideShapes Go.ChangeAt Go.RowKit
set_option linter.unusedVariables false
set_option maxRecDepth 100000

theorem qc_nil (q n c : Int) : qcE q n 0 0 0 0 c = 1 := by
  have h : rightE q (rowM [n, 0, 0]) 0 0 = 1 := by
    have : okSeal q (rowM [n, 0, 0]) 0 0 = false := by
      have h0 : okIn 0 = false := by decide
      unfold okSeal; rw [h0]; simp
    unfold rightE; rw [this]; rfl
  unfold qcE
  split
  · rw [h]; rfl
  · rfl

set_option maxHeartbeats 1000000 in
theorem sure_early (q n c : Int) (l rs : Value) (w : World) :
    Calls Try.prog 20 #[.int .i64 q, .agg #[.int .i64 n, .int .i64 0, .int .i64 0, .int .i64 0, .int .i64 0], .int .i64 c, l, rs] w fun e w' => e = .returned (errV 1) ∧ Below w.heap.size w w' := by
  have en := fun k w => err_neq k w
  have gn := fun o k w => err_guard_neq o k w
  have HQ := Lib.hid (qc_nil q n c)
  go_enter Try.func20, Try.ntmps20
  go_wp2_with fail
  refine (quoteCheck_any q n 0 0 0 0 c _).mono ?_
  rintro e w1 ⟨rfl, hb1⟩
  rw [HQ.out]
  go_wp2_with fail
  go_ret
  exact ⟨rfl, (by repeat (first | (with_reducible exact grow_refl _) | (with_reducible assumption) | (with_reducible refine grow_alloc ?_ _) | (with_reducible refine grow_set ?_ (by first | exact Nat.le_refl _ | (simp; done) | (simp; omega) | omega) _) | (with_reducible refine grow_drewN ?_ _) | (with_reducible refine grow_drew ?_) | (with_reducible refine grow_step ?_ (by assumption)) | (with_reducible refine grow_base ?_ (by assumption))))⟩

set_option maxHeartbeats 1000000 in
theorem judgeEmpty_walk (w : World) (q n : Int) (A : Option Addr) (es : List (Int × Int)) (c : Nat) (_iq : I64 q) (_in : I64 n) (_hA : EvsAt w A es) (_hz : es.length * 16 ≤ 140737488351232) (_hc : es.length ≤ c) :
    Calls Try.prog 7 #[.int .i64 q, .int .i64 n, .slice A es.length c] w fun e w' => e = .returned (.bool true) ∧ Below w.heap.size w w' := by
  have en := fun k w => err_neq k w
  have gn := fun o k w => err_guard_neq o k w
  clear _iq _in _hA _hz _hc
  go_enter Try.func7, Try.ntmps7
  go_wp2_with fail
  refine (sure_early q n n _ _ _).mono ?_
  rintro e w1 ⟨rfl, hb1⟩
  go_wp2_with fail
  go_ret
  exact ⟨rfl, (by repeat (first | (with_reducible exact grow_refl _) | (with_reducible assumption) | (with_reducible refine grow_alloc ?_ _) | (with_reducible refine grow_set ?_ (by first | exact Nat.le_refl _ | (simp; done) | (simp; omega) | omega) _) | (with_reducible refine grow_drewN ?_ _) | (with_reducible refine grow_drew ?_) | (with_reducible refine grow_step ?_ (by assumption)) | (with_reducible refine grow_base ?_ (by assumption))))⟩

set_option maxRecDepth 100000 in
theorem judgeEmpty_walks (H : Type) (enc : TypeId × Value → H) : Walks enc Try.prog 7 Try.f7 := by
  intro W base args ds p hval hA hlt hsz hsh
  have hsz0 := hsz
  rw [Try.params7] at hA hval
  obtain ⟨v0, vs0, d0, ds0, p0, q0, hargs, rfl, rfl, h0, r0⟩ := trodAll_cons hA
  obtain ⟨v1, vs1, d1, ds1, p1, q1, rfl, rfl, rfl, h1, r1⟩ := trodAll_cons r0
  obtain ⟨v2, vs2, d2, ds2, p2, q2, rfl, rfl, rfl, h2, r2⟩ := trodAll_cons r1
  obtain ⟨rfl, rfl, rfl⟩ := trodAll_nil r2
  obtain rfl : args = #[v0, v1, v2] := by cases args; simp_all
  obtain ⟨a0, rfl, w0⟩ := op_int (hval 0 3 v0 rfl rfl) h0
  obtain ⟨a1, rfl, w1⟩ := op_int (hval 1 3 v1 rfl rfl) h1
  obtain ⟨A2, a2, c2, rfl, w2, z2, y2⟩ := op_evs (hval 2 41 v2 rfl rfl) h2 (fun x hx => hlt x (by simp [hx])) (w_each hsz 2 41 _ (by rw [Try.params7]; rfl) rfl)
  exact judgeEmpty_walk W a0 a1 A2 a2 c2 w0 w1 w2 z2 y2

set_option maxRecDepth 100000 in
theorem judgeEmpty_lifted (os : Os) (started : os.Started) (H : Type) (enc : TypeId × Value → H) :
    ReturnsInHanded {} Try.checked os 7 .any (Rows.judgeEmptySpec.pre6 enc Try.prog Try.f7 Rows.judgeEmptyRow.domain false) (Rows.judgeEmptySpec.post enc Try.prog Try.f7 false true false false) :=
  returns_of_walk (C := Try.checked) (s := Rows.judgeEmptySpec) own started (by kernel_rfl) Try.func7
    (ChangeSpec.witness6 (enc := enc) (C := Try.checked) false ⟨#[], #[.int .i64 0, .int .i64 0, .slice none 0 0], []⟩ 8 (by kernel_rfl) (by kernel_rfl) (by kernel_rfl) (by kernel_rfl))
    laidOut (by kernel_rfl) (by kernel_rfl) Try.underlying4 rfl (fun ds h => by match ds, h with | [_, _, _], _ => rfl) (judgeEmpty_walks H enc)

theorem judgeEmpty_holds : Rows.JudgeEmptySaid :=
  OpenClaim.holds_of_wide 7 Try.f7 rfl rfl rfl rfl rfl rfl rfl ⟨rfl, rfl, rfl, rfl, rfl⟩ rfl rfl rfl rfl rfl (by kernel_rfl) Try.func7 (by kernel_rfl)
    (of_decide_eq_true (by kernel_rfl)) (by unfold Func.isWrapper; rw [if_neg (of_decide_eq_false (by kernel_rfl))]; exact ⟨rfl, rfl⟩)
    (fun os started H enc _ => judgeEmpty_lifted os started H enc)

end Go.Proofs.Ytebecndmlgolpaa
