/- KeyOrder: all secrets are unlike, and so are their keys. -/
import Derived.Test.YtfklbifgjpocnaaRows
import Derived.Test.YtfklbifgjpocnaaKey
import Derived.WalkKit
import Derived.Lib.Hide
import Derived.Test.YtfklbifgjpocnaaLift
namespace Go.Proofs.Ytfklbifgjpocnaa
open Go.ChangeShapes Go.WideShapes Go.ChangeAt Go.RowKit

theorem pubE_yes {x : Int} (h : okSecret x = true) : pubE x = 0 := by simp [pubE, h]
theorem pubM_yes {x : Int} (h : okSecret x = true) : pubM x = pwI 64 x := by simp [pubM, h]
theorem pubE_no {x : Int} (h : okSecret x = false) : pubE x = 1 := by simp [pubE, h]
theorem pubM_no {x : Int} (h : okSecret x = false) : pubM x = 0 := by simp [pubM, h]

theorem pw64_ne_one : ∀ d, d < 257 → 1 ≤ d → pw 64 d ≠ 1 := by decide +kernel
theorem pw64_inv : ∀ d, d < 257 → pw 64 d * pw 64 (257 - d) % 1543 = 1 := by decide +kernel
theorem pw_add (a m n : Nat) : pw a (m + n) = pw a m * pw a n % 1543 := by
  unfold pw; rw [Nat.pow_add, Nat.mul_mod]
theorem pw64_inj {x y : Nat} (hx : x < 257) (hy : y < 257) (hxy : x < y) : pw 64 x ≠ pw 64 y := by
  intro h
  have h1 : pw 64 y = pw 64 x * pw 64 (y - x) % 1543 := by rw [← pw_add]; congr 1; omega
  have h2 := pw64_inv x hx
  apply pw64_ne_one (y - x) (by omega) (by omega)
  have h3 : pw 64 (257 - x) * (pw 64 x * pw 64 (y - x)) % 1543 = pw 64 (257 - x) * pw 64 x % 1543 := by
    rw [Nat.mul_mod, ← h1, ← h, Nat.mod_eq_of_lt (pw_lt _ _), ← Nat.mul_mod_mod, Nat.mod_eq_of_lt (pw_lt 64 x)]
  rw [← Nat.mul_assoc, ← Nat.mod_mul_mod, Nat.mul_comm (pw 64 (257 - x)), h2, Nat.one_mul, Nat.mod_eq_of_lt (pw_lt _ _)] at h3
  exact h3

theorem key_eq {x y : Int} (hx : okSecret x = true) (hy : okSecret y = true) : (pwI 64 x == pwI 64 y) = (x == y) := by
  have a := okSecret_yes hx
  have b := okSecret_yes hy
  by_cases h : x = y
  · simp [h]
  · have h1 : (x == y) = false := by simp [h]
    rw [h1, beq_eq_false_iff_ne]
    unfold pwI
    intro e
    have e' : pw 64 x.toNat = pw 64 y.toNat := by
      have : ((64 : Int).toNat) = 64 := rfl
      rw [this] at e; omega
    rcases Nat.lt_trichotomy x.toNat y.toNat with g | g | g
    · exact pw64_inj (by omega) (by omega) g e'
    · omega
    · exact pw64_inj (by omega) (by omega) g e'.symm
theorem key_ne1 {x : Int} (hx : okSecret x = true) : (pwI 64 x != 1) = true := by
  have a := okSecret_yes hx
  have := pw64_ne_one x.toNat (by omega) (by omega)
  rw [bne_iff_ne]; unfold pwI
  have e : ((64 : Int).toNat) = 64 := rfl
  rw [e]; omega

set_option maxHeartbeats 400000 in
theorem keyOrder_walk (x y : Int) (w : World) :
    Calls Try.prog 3 #[.int .i64 x, .int .i64 y] w fun e w' => e = .returned (.bool true) ∧ Below w.heap.size w w' := by
  have en := fun k w => err_neq k w
  have ee := fun k w => err_eql k w
  have gn := fun o k w => err_guard_neq o k w
  have ge := fun o k w => err_guard_eql o k w
  by_cases hx : okSecret x = true
  · have ex := pubE_yes hx
    have mx := pubM_yes hx
    have nx := key_ne1 hx
    by_cases hy : okSecret y = true
    · have ey := pubE_yes hy
      have my := pubM_yes hy
      have ke := key_eq hx hy
      go_enter Try.func3, Try.ntmps3
      go_wp2_with (go_at_call 15; refine (public_any _ _).mono ?_; rintro e w' ⟨rfl, rfl⟩)
      go_ret
      exact ⟨rfl, Below.refl _ _⟩
    · simp only [Bool.not_eq_true] at hy
      have ey := pubE_no hy
      go_enter Try.func3, Try.ntmps3
      go_wp2_with (go_at_call 15; refine (public_any _ _).mono ?_; rintro e w' ⟨rfl, rfl⟩)
      go_ret
      exact ⟨rfl, Below.refl _ _⟩
  · simp only [Bool.not_eq_true] at hx
    have ex := pubE_no hx
    have hb := okSecret_no hx
    have t : (decide (x < 1) || decide (256 < x)) = true := by simp; exact hb
    go_enter Try.func3, Try.ntmps3
    go_wp2_with (go_at_call 15; refine (public_any _ _).mono ?_; rintro e w' ⟨rfl, rfl⟩)
    all_goals go_ret
    all_goals exact ⟨rfl, Below.refl _ _⟩

set_option maxRecDepth 100000 in
theorem keyOrder_walks (H : Type) (enc : TypeId × Value → H) : Walks enc Try.prog 3 Try.f3 := by
  intro W base args ds p hval hA hlt hsz hsh
  rw [Try.params3] at hA hval
  obtain ⟨v0, vs0, d0, ds0, p0, q0, hargs, rfl, rfl, h0, r0⟩ := trodAll_cons hA
  obtain ⟨v1, vs1, d1, ds1, p1, q1, rfl, rfl, rfl, h1, r1⟩ := trodAll_cons r0
  obtain ⟨rfl, rfl, rfl⟩ := trodAll_nil r1
  obtain rfl : args = #[v0, v1] := by cases args; simp_all
  obtain ⟨a0, rfl, rfl, rfl, w0⟩ := open_int Try.underlying3 (hval 0 3 v0 rfl rfl) h0
  obtain ⟨a1, rfl, rfl, rfl, w1⟩ := open_int Try.underlying3 (hval 1 3 v1 rfl rfl) h1
  exact keyOrder_walk a0 a1 W

set_option maxRecDepth 100000 in
theorem keyOrder_lifted (os : Os) (started : os.Started) (H : Type) (enc : TypeId × Value → H) :
    ReturnsInHanded {} Try.checked os 3 .any (Rows.keyOrderSpec.pre6 enc Try.prog Try.f3 Rows.keyOrderRow.domain false) (Rows.keyOrderSpec.post enc Try.prog Try.f3 false true false false) :=
  returns_of_walk (C := Try.checked) (s := Rows.keyOrderSpec) own started (by kernel_rfl) Try.func3
    (ChangeSpec.witness6 (enc := enc) (C := Try.checked) false ⟨#[], #[.int .i64 0, .int .i64 0], []⟩ 8 (by kernel_rfl) (by kernel_rfl) (by kernel_rfl) (by kernel_rfl))
    laidOut (by kernel_rfl) (by kernel_rfl) Try.underlying4 rfl (fun ds h => by match ds, h with | [_, _], _ => rfl) (keyOrder_walks H enc)

theorem keyOrder_holds : Rows.KeyOrderSaid :=
  OpenClaim.holds_of_wide 3 Try.f3 rfl rfl rfl rfl rfl rfl rfl ⟨rfl, rfl, rfl, rfl, rfl⟩ rfl rfl rfl rfl rfl (by kernel_rfl) Try.func3 (by kernel_rfl)
    (of_decide_eq_true (by kernel_rfl)) (by unfold Func.isWrapper; rw [if_neg (of_decide_eq_false (by kernel_rfl))]; exact ⟨rfl, rfl⟩)
    (fun os started H enc _ => keyOrder_lifted os started H enc)

end Go.Proofs.Ytfklbifgjpocnaa
