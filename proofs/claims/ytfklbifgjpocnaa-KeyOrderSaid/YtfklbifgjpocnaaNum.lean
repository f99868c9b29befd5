/- Plain numbers: powers modulo the group. No program in sight. -/
namespace Go.Proofs.Ytfklbifgjpocnaa

/-- 'a' to the power of 'n', modulo the group. -/
def pw (a n : Nat) : Nat := a ^ n % 1543

theorem pw_lt (a n : Nat) : pw a n < 1543 := Nat.mod_lt _ (by decide)

def pwI (a n : Int) : Int := ((pw a.toNat n.toNat : Nat) : Int)

/-- What holds of power's loop: out, a, n. -/
def PowInv (a0 n0 o a n : Nat) : Prop := o < 1543 ∧ a < 1543 ∧ n ≤ n0 ∧ o * a ^ n % 1543 = a0 ^ n0 % 1543

theorem powInv_start {a n : Nat} (h : a < 1543) : PowInv a n 1 a n := ⟨by omega, h, Nat.le_refl _, by rw [Nat.one_mul]⟩

theorem powInv_end {a0 n0 o a : Nat} (h : PowInv a0 n0 o a 0) : o = pw a0 n0 := by
  obtain ⟨h1, _, _, h2⟩ := h
  rw [Nat.pow_zero, Nat.mul_one, Nat.mod_eq_of_lt h1] at h2
  exact h2

theorem pow_half_even (a n : Nat) (h : n % 2 = 0) : (a * a) ^ (n / 2) = a ^ n := by
  rw [← Nat.pow_two, ← Nat.pow_mul]; congr 1; omega
theorem pow_half_odd (a n : Nat) (h : n % 2 = 1) : a * (a * a) ^ (n / 2) = a ^ n := by
  rw [← Nat.pow_two, ← Nat.pow_mul, Nat.mul_comm, ← Nat.pow_succ]; congr 1; omega

theorem powInv_even {a0 n0 o a n : Nat} (h : PowInv a0 n0 o a n) (he : n % 2 = 0) : PowInv a0 n0 o (a * a % 1543) (n / 2) := by
  obtain ⟨h1, h2, h3, h4⟩ := h
  refine ⟨h1, Nat.mod_lt _ (by decide), by omega, ?_⟩
  rw [← h4, Nat.mul_mod, ← Nat.pow_mod, ← Nat.mul_mod, pow_half_even a n he]

theorem powInv_odd {a0 n0 o a n : Nat} (h : PowInv a0 n0 o a n) (he : n % 2 = 1) : PowInv a0 n0 (o * a % 1543) (a * a % 1543) (n / 2) := by
  obtain ⟨h1, h2, h3, h4⟩ := h
  refine ⟨Nat.mod_lt _ (by decide), Nat.mod_lt _ (by decide), by omega, ?_⟩
  rw [← h4, Nat.mul_mod, ← Nat.pow_mod, Nat.mod_mod, ← Nat.mul_mod, Nat.mul_assoc, pow_half_odd a n he]

theorem mul_bd {x y : Nat} (h : x < 1543) (k : y < 1543) : (0 : Int) ≤ (x : Int) * (y : Int) ∧ (x : Int) * (y : Int) ≤ 2400000 := by
  have h1 : x * y ≤ 1542 * 1542 := Nat.mul_le_mul (by omega) (by omega)
  have h2 : ((x * y : Nat) : Int) ≤ 2400000 := by omega
  have h3 : (0 : Int) ≤ ((x * y : Nat) : Int) := by omega
  rw [Int.natCast_mul] at h2 h3
  exact ⟨h3, h2⟩

end Go.Proofs.Ytfklbifgjpocnaa
