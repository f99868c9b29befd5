/- Plain numbers: who has the secret seals (Schnorr). No program in sight. -/
import Derived.Test.YtdedllfgeekogaaDoorNum
namespace Go.Proofs.YtdedllfgeekogaaDoor

theorem pw64_ne_one : ∀ d, d < 257 → 1 ≤ d → pw 64 d ≠ 1 := by decide +kernel
theorem pw64_ne_zero : ∀ d, d < 257 → pw 64 d ≠ 0 := by decide +kernel
theorem pw64_inv : ∀ d, d < 257 → pw 64 d * pw 64 (257 - d) % 1543 = 1 := by decide +kernel
theorem pw_add (a m n : Nat) : pw a (m + n) = pw a m * pw a n % 1543 := by
  unfold pw; rw [Nat.pow_add, Nat.mul_mod]
theorem pw64_lt {x y : Nat} (hx : x < 257) (hy : y < 257) (hxy : x < y) : pw 64 x ≠ pw 64 y := by
  intro h
  have h1 : pw 64 y = pw 64 x * pw 64 (y - x) % 1543 := by rw [← pw_add]; congr 1; omega
  have h2 := pw64_inv x hx
  apply pw64_ne_one (y - x) (by omega) (by omega)
  have h3 : pw 64 (257 - x) * (pw 64 x * pw 64 (y - x)) % 1543 = pw 64 (257 - x) * pw 64 x % 1543 := by
    rw [Nat.mul_mod, ← h1, ← h, Nat.mod_eq_of_lt (pw_lt _ _), ← Nat.mul_mod_mod, Nat.mod_eq_of_lt (pw_lt 64 x)]
  rw [← Nat.mul_assoc, ← Nat.mod_mul_mod, Nat.mul_comm (pw 64 (257 - x)), h2, Nat.one_mul, Nat.mod_eq_of_lt (pw_lt _ _)] at h3
  exact h3
theorem pw64_inj {x y : Nat} (hx : x < 257) (hy : y < 257) (h : pw 64 x = pw 64 y) : x = y := by
  rcases Nat.lt_trichotomy x y with g | g | g
  · exact absurd h (pw64_lt hx hy g)
  · exact g
  · exact absurd h.symm (pw64_lt hy hx g)
theorem pw64_mod (n : Nat) : pw 64 (n % 257) = pw 64 n := by
  have h : pw 64 257 = 1 := by decide +kernel
  have hk : ∀ k, pw 64 (257 * k) = 1 := fun k => by
    unfold pw at h ⊢
    rw [Nat.pow_mul, Nat.pow_mod, h, Nat.one_pow]
  have e : pw 64 n = pw 64 (257 * (n / 257) + n % 257) := by rw [Nat.div_add_mod]
  rw [e, pw_add, hk, Nat.one_mul, Nat.mod_eq_of_lt (pw_lt _ _)]
theorem pw_pw (a x c : Nat) : pw (pw a x) c = pw a (x * c) := by
  unfold pw; rw [← Nat.pow_mod, ← Nat.pow_mul]

theorem pwI_eq {x y : Int} (hx : 0 ≤ x) (hx' : x ≤ 256) (hy : 0 ≤ y) (hy' : y ≤ 256) : (pwI 64 x == pwI 64 y) = (x == y) := by
  by_cases h : x = y
  · simp [h]
  · have h1 : (x == y) = false := by simp [h]
    rw [h1, beq_eq_false_iff_ne]
    unfold pwI
    intro e
    have e' : pw 64 x.toNat = pw 64 y.toNat := by
      have : ((64 : Int).toNat) = 64 := rfl
      rw [this] at e; omega
    have := pw64_inj (by omega) (by omega) e'
    omega
theorem key_eq {x y : Int} (hx : okSecret x = true) (hy : okSecret y = true) : (pwI 64 x == pwI 64 y) = (x == y) := by
  have a := okSecret_yes hx
  have b := okSecret_yes hy
  exact pwI_eq (by omega) (by omega) (by omega) (by omega)
theorem key_ne1 {x : Int} (hx : okSecret x = true) : (pwI 64 x != 1) = true := by
  have a := okSecret_yes hx
  have := pw64_ne_one x.toNat (by omega) (by omega)
  rw [bne_iff_ne]; unfold pwI
  have e : ((64 : Int).toNat) = 64 := rfl
  rw [e]; omega
theorem key_in {x : Int} (hx : 0 ≤ x) (hx' : x ≤ 256) : okIn (pwI 64 x) = true := by
  have := pw64_ne_zero x.toNat (by omega)
  have := pwI_bd 64 x
  have e : ((64 : Int).toNat) = 64 := rfl
  refine decide_eq_true ⟨?_, by omega⟩
  unfold pwI at *
  rw [e] at *
  omega
theorem sealA_bd (x k m : Int) : 0 ≤ sealA x k m ∧ sealA x k m ≤ 256 := by unfold sealA; omega

/-- What is sealed with the secret is right, and with no other answer. -/
theorem seal_only (x k m other : Int) (hx : okSecret x = true) (hk : okSecret k = true) (h0 : 0 ≤ other) (h1 : other ≤ 256) :
    eqSeal (pwI 64 x) m (pwI 64 k) other = (other == sealA x k m) := by
  obtain ⟨x1, x2⟩ := okSecret_yes hx
  obtain ⟨k1, k2⟩ := okSecret_yes hk
  have hc := chM_bd (pwI 64 k) (pwI 64 x) m
  have hs := sealA_bd x k m
  have hR : pwI 64 k * pwI (pwI 64 x) (chM (pwI 64 k) (pwI 64 x) m) % 1543 = pwI 64 (sealA x k m) := by
    unfold sealA
    generalize chM (pwI 64 k) (pwI 64 x) m = c at *
    obtain ⟨c, rfl⟩ := Int.eq_ofNat_of_zero_le hc.1
    obtain ⟨k, rfl⟩ := Int.eq_ofNat_of_zero_le (by omega : 0 ≤ k)
    obtain ⟨x, rfl⟩ := Int.eq_ofNat_of_zero_le (by omega : 0 ≤ x)
    have e1 : (((k : Int) + (c : Int) * (x : Int)) % 257).toNat = (k + c * x) % 257 := by
      have : ((k : Int) + (c : Int) * (x : Int)) % 257 = (((k + c * x) % 257 : Nat) : Int) := by
        rw [← Int.natCast_mul]; omega
      rw [this, Int.toNat_natCast]
    unfold pwI
    rw [e1, Int.toNat_natCast, Int.toNat_natCast, Int.toNat_natCast, Int.toNat_natCast]
    have e64 : ((64 : Int).toNat) = 64 := rfl
    rw [e64, pw_pw, pw64_mod, Nat.mul_comm c x, pw_add]
    rw [← Int.natCast_mul]; omega
  unfold eqSeal
  rw [hR, pwI_eq h0 h1 hs.1 hs.2]
theorem seal_right (x k m : Int) (hx : okSecret x = true) (hk : okSecret k = true) : eqSeal (pwI 64 x) m (pwI 64 k) (sealA x k m) = true := by
  have hs := sealA_bd x k m
  rw [seal_only x k m _ hx hk hs.1 hs.2]
  exact beq_self_eq_true _

/-- Who seals two by one number tells the secret. -/
theorem seal_tells (a b x k : Int) : ((a - b + 257) * x - ((k + a * x) % 257 - (k + b * x) % 257 + 257)) % 257 = 0 := by
  have h1 : (a - b + 257) * x = a * x - b * x + 257 * x := by rw [Int.add_mul, Int.sub_mul]
  rw [h1]
  generalize a * x = p
  generalize b * x = q
  omega
end Go.Proofs.YtdedllfgeekogaaDoor
