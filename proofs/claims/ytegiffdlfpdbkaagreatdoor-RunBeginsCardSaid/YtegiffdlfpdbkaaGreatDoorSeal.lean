/- Plain numbers: who has the secret seals (Schnorr). No program in sight. Plain: a chain of certs, cut anywhere, ends where the whole ends; a chain that is made is right. No program in sight. -/
import Derived.Test.YtegiffdlfpdbkaaGreatDoorNum
namespace Go.Proofs.YtegiffdlfpdbkaaGreatDoor

theorem pw64_ne_one : ∀ d, d < 257 → 1 ≤ d → pw 64 d ≠ 1 := by decide +kernel
theorem pw64_ne_zero : ∀ d, d < 257 → pw 64 d ≠ 0 := by decide +kernel
theorem pw64_inv : ∀ d, d < 257 → pw 64 d * pw 64 (257 - d) % 1543 = 1 := by decide +kernel
theorem pw_add (a m n : Nat) : pw a (m + n) = pw a m * pw a n % 1543 := by
  unfold pw; rw [Nat.pow_add, Nat.mul_mod]
theorem pw64_lt {x y : Nat} (hx : x < 257) (hy : y < 257) (hxy : x < y) : pw 64 x ≠ pw 64 y := by
  intro h
  have h1 : pw 64 y = pw 64 x * pw 64 (y - x) % 1543 := by rw [← pw_add]; congr 1; omega
  have h2 := pw64_inv x hx
  apply pw64_ne_one (y - x) (by omega) (by omega)
  have h3 : pw 64 (257 - x) * (pw 64 x * pw 64 (y - x)) % 1543 = pw 64 (257 - x) * pw 64 x % 1543 := by
    rw [Nat.mul_mod, ← h1, ← h, Nat.mod_eq_of_lt (pw_lt _ _), ← Nat.mul_mod_mod, Nat.mod_eq_of_lt (pw_lt 64 x)]
  rw [← Nat.mul_assoc, ← Nat.mod_mul_mod, Nat.mul_comm (pw 64 (257 - x)), h2, Nat.one_mul, Nat.mod_eq_of_lt (pw_lt _ _)] at h3
  exact h3
theorem pw64_inj {x y : Nat} (hx : x < 257) (hy : y < 257) (h : pw 64 x = pw 64 y) : x = y := by
  rcases Nat.lt_trichotomy x y with g | g | g
  · exact absurd h (pw64_lt hx hy g)
  · exact g
  · exact absurd h.symm (pw64_lt hy hx g)
theorem pw64_mod (n : Nat) : pw 64 (n % 257) = pw 64 n := by
  have h : pw 64 257 = 1 := by decide +kernel
  have hk : ∀ k, pw 64 (257 * k) = 1 := fun k => by
    unfold pw at h ⊢
    rw [Nat.pow_mul, Nat.pow_mod, h, Nat.one_pow]
  have e : pw 64 n = pw 64 (257 * (n / 257) + n % 257) := by rw [Nat.div_add_mod]
  rw [e, pw_add, hk, Nat.one_mul, Nat.mod_eq_of_lt (pw_lt _ _)]
theorem pw_pw (a x c : Nat) : pw (pw a x) c = pw a (x * c) := by
  unfold pw; rw [← Nat.pow_mod, ← Nat.pow_mul]

theorem pwI_eq {x y : Int} (hx : 0 ≤ x) (hx' : x ≤ 256) (hy : 0 ≤ y) (hy' : y ≤ 256) : (pwI 64 x == pwI 64 y) = (x == y) := by
  by_cases h : x = y
  · simp [h]
  · have h1 : (x == y) = false := by simp [h]
    rw [h1, beq_eq_false_iff_ne]
    unfold pwI
    intro e
    have e' : pw 64 x.toNat = pw 64 y.toNat := by
      have : ((64 : Int).toNat) = 64 := rfl
      rw [this] at e; omega
    have := pw64_inj (by omega) (by omega) e'
    omega
theorem key_eq {x y : Int} (hx : okSecret x = true) (hy : okSecret y = true) : (pwI 64 x == pwI 64 y) = (x == y) := by
  have a := okSecret_yes hx
  have b := okSecret_yes hy
  exact pwI_eq (by omega) (by omega) (by omega) (by omega)
theorem key_ne1 {x : Int} (hx : okSecret x = true) : (pwI 64 x != 1) = true := by
  have a := okSecret_yes hx
  have := pw64_ne_one x.toNat (by omega) (by omega)
  rw [bne_iff_ne]; unfold pwI
  have e : ((64 : Int).toNat) = 64 := rfl
  rw [e]; omega
theorem key_in {x : Int} (hx : 0 ≤ x) (hx' : x ≤ 256) : okIn (pwI 64 x) = true := by
  have := pw64_ne_zero x.toNat (by omega)
  have := pwI_bd 64 x
  have e : ((64 : Int).toNat) = 64 := rfl
  refine decide_eq_true ⟨?_, by omega⟩
  unfold pwI at *
  rw [e] at *
  omega
theorem sealA_bd (x k m : Int) : 0 ≤ sealA x k m ∧ sealA x k m ≤ 256 := by unfold sealA; omega

/-- What is sealed with the secret is right, and with no other answer. -/
theorem seal_only (x k m other : Int) (hx : okSecret x = true) (hk : okSecret k = true) (h0 : 0 ≤ other) (h1 : other ≤ 256) :
    eqSeal (pwI 64 x) m (pwI 64 k) other = (other == sealA x k m) := by
  obtain ⟨x1, x2⟩ := okSecret_yes hx
  obtain ⟨k1, k2⟩ := okSecret_yes hk
  have hc := chM_bd (pwI 64 k) (pwI 64 x) m
  have hs := sealA_bd x k m
  have hR : pwI 64 k * pwI (pwI 64 x) (chM (pwI 64 k) (pwI 64 x) m) % 1543 = pwI 64 (sealA x k m) := by
    unfold sealA
    generalize chM (pwI 64 k) (pwI 64 x) m = c at *
    obtain ⟨c, rfl⟩ := Int.eq_ofNat_of_zero_le hc.1
    obtain ⟨k, rfl⟩ := Int.eq_ofNat_of_zero_le (by omega : 0 ≤ k)
    obtain ⟨x, rfl⟩ := Int.eq_ofNat_of_zero_le (by omega : 0 ≤ x)
    have e1 : (((k : Int) + (c : Int) * (x : Int)) % 257).toNat = (k + c * x) % 257 := by
      have : ((k : Int) + (c : Int) * (x : Int)) % 257 = (((k + c * x) % 257 : Nat) : Int) := by
        rw [← Int.natCast_mul]; omega
      rw [this, Int.toNat_natCast]
    unfold pwI
    rw [e1, Int.toNat_natCast, Int.toNat_natCast, Int.toNat_natCast, Int.toNat_natCast]
    have e64 : ((64 : Int).toNat) = 64 := rfl
    rw [e64, pw_pw, pw64_mod, Nat.mul_comm c x, pw_add]
    rw [← Int.natCast_mul]; omega
  unfold eqSeal
  rw [hR, pwI_eq h0 h1 hs.1 hs.2]
theorem seal_right (x k m : Int) (hx : okSecret x = true) (hk : okSecret k = true) : eqSeal (pwI 64 x) m (pwI 64 k) (sealA x k m) = true := by
  have hs := sealA_bd x k m
  rw [seal_only x k m _ hx hk hs.1 hs.2]
  exact beq_self_eq_true _

/-- Who seals two by one number tells the secret. -/
theorem seal_tells (a b x k : Int) : ((a - b + 257) * x - ((k + a * x) % 257 - (k + b * x) % 257 + 257)) % 257 = 0 := by
  have h1 : (a - b + 257) * x = a * x - b * x + 257 * x := by rw [Int.add_mul, Int.sub_mul]
  rw [h1]
  generalize a * x = p
  generalize b * x = q
  omega
end Go.Proofs.YtegiffdlfpdbkaaGreatDoor

namespace Go.Proofs.YtegiffdlfpdbkaaGreatDoor

theorem lastGo_cons (root k p a : Int) (r : List (Int × Int × Int)) : lastGo root ((k, p, a) :: r) = if okIn k then (if rightE root k p a = 0 then lastGo k r else (0, rightE root k p a)) else (0, 1) := rfl
theorem lastGo_append (cs ds : List (Int × Int × Int)) : ∀ root, lastGo root (cs ++ ds) = if (lastGo root cs).2 = 0 then lastGo (lastGo root cs).1 ds else (0, (lastGo root cs).2) := by
  induction cs with
  | nil => intro root; rfl
  | cons c cs ih =>
    intro root
    obtain ⟨k, p, a⟩ := c
    rw [List.cons_append, lastGo_cons, lastGo_cons]
    by_cases h1 : okIn k = true
    · rw [if_pos h1, if_pos h1]
      by_cases h2 : rightE root k p a = 0
      · rw [if_pos h2, if_pos h2]; exact ih k
      · rw [if_neg h2, if_neg h2]; rw [if_neg h2]
    · rw [if_neg h1, if_neg h1]; rfl

theorem lastGo_in (cs : List (Int × Int × Int)) : ∀ root, okIn root = true → (lastGo root cs).2 = 0 → okIn (lastGo root cs).1 = true := by
  induction cs with
  | nil => intro root h _; exact h
  | cons c cs ih =>
    intro root h h2
    obtain ⟨k, p, a⟩ := c
    rw [lastGo_cons] at h2 ⊢
    by_cases h1 : okIn k = true
    · rw [if_pos h1] at h2 ⊢
      by_cases h3 : rightE root k p a = 0
      · rw [if_pos h3] at h2 ⊢; exact ih k h1 h2
      · rw [if_neg h3] at h2; exact absurd h2 h3
    · rw [if_neg h1] at h2; exact absurd h2 (by decide)

theorem chain_cut {root : Int} {l : List (Int × Int × Int)} (h : (certLast root l).2 = 0) (c : Nat) :
    (certLast root (l.take c)).2 = 0 ∧ (certLast (certLast root (l.take c)).1 (l.drop c)).2 = 0 ∧ (certLast (certLast root (l.take c)).1 (l.drop c)).1 = (certLast root l).1 := by
  unfold certLast at h
  by_cases h1 : 12 < l.length
  · rw [if_pos h1] at h; exact absurd h (by decide)
  · rw [if_neg h1] at h
    by_cases h2 : okIn root = true
    · rw [if_pos h2] at h
      have e := lastGo_append (l.take c) (l.drop c) root
      rw [List.take_append_drop] at e
      have t1 : ¬ 12 < (l.take c).length := by rw [List.length_take]; omega
      have t2 : ¬ 12 < (l.drop c).length := by rw [List.length_drop]; omega
      have hz : (lastGo root (l.take c)).2 = 0 := by
        by_cases hz : (lastGo root (l.take c)).2 = 0
        · exact hz
        · rw [if_neg hz] at e; rw [e] at h; exact h
      rw [if_pos hz] at e
      have hi := lastGo_in (l.take c) root h2 hz
      have e1 : certLast root (l.take c) = lastGo root (l.take c) := by unfold certLast; rw [if_neg t1, if_pos h2]
      have e2 : certLast (lastGo root (l.take c)).1 (l.drop c) = lastGo root l := by unfold certLast; rw [if_neg t2, if_pos hi, e]
      have e3 : certLast root l = lastGo root l := by unfold certLast; rw [if_neg h1, if_pos h2]
      rw [e1, e2, e3]
      exact ⟨hz, h, rfl⟩
    · rw [if_neg h2] at h; exact absurd h (by decide)

/-- A cert that is made goes on from its maker's key. -/
theorem made_right {x k q : Int} (hx : okSecret x = true) (h : sgE x k q = 0) : rightE (pwI 64 x) q (sgP x k q) (sgA x k q) = 0 := by
  have hs : okSign x k q = true := by
    unfold sgE at h
    cases hh : okSign x k q
    · rw [hh] at h; cases h
    · rfl
  have h3 := hs
  unfold okSign at h3
  simp only [Bool.and_eq_true] at h3
  obtain ⟨⟨_, hk⟩, hm⟩ := h3
  have x1 := okSecret_yes hx
  have k1 := okSecret_yes hk
  have a1 := sealA_bd x k q
  have e1 : sgP x k q = pwI 64 k := by unfold sgP; rw [hs]; rfl
  have e2 : sgA x k q = sealA x k q := by unfold sgA; rw [hs]; rfl
  have o : okSeal (pwI 64 x) q (pwI 64 k) (sealA x k q) = true := by
    unfold okSeal
    rw [key_in (by omega) (by omega), key_in (by omega) (by omega), hm]
    exact decide_eq_true ⟨a1.1, a1.2⟩
  unfold rightE
  rw [e1, e2, o, seal_right x k q hx hk]; rfl
theorem lastGo_snoc (root k p a : Int) (cs : List (Int × Int × Int)) (q : Int) (h : lastGo root cs = (q, 0)) (hk : okIn k = true) (hr : rightE q k p a = 0) : lastGo root (cs ++ [(k, p, a)]) = (k, 0) := by
  rw [lastGo_append, h, if_pos rfl, lastGo_cons, if_pos hk, if_pos hr]; rfl

end Go.Proofs.YtegiffdlfpdbkaaGreatDoor
