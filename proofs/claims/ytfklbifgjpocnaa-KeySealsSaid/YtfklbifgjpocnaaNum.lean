/- Plain numbers: powers modulo the group. No program in sight. -/
namespace Go.Proofs.Ytfklbifgjpocnaa

/-- 'a' to the power of 'n', modulo the group. -/
def pw (a n : Nat) : Nat := a ^ n % 1543

theorem pw_lt (a n : Nat) : pw a n < 1543 := Nat.mod_lt _ (by decide)

def pwI (a n : Int) : Int := ((pw a.toNat n.toNat : Nat) : Int)

/-- What holds of power's loop: out, a, n. -/
def PowInv (a0 n0 o a n : Nat) : Prop := o < 1543 ∧ a < 1543 ∧ n ≤ n0 ∧ o * a ^ n % 1543 = a0 ^ n0 % 1543

theorem powInv_start {a n : Nat} (h : a < 1543) : PowInv a n 1 a n := ⟨by omega, h, Nat.le_refl _, by rw [Nat.one_mul]⟩

theorem powInv_end {a0 n0 o a : Nat} (h : PowInv a0 n0 o a 0) : o = pw a0 n0 := by
  obtain ⟨h1, _, _, h2⟩ := h
  rw [Nat.pow_zero, Nat.mul_one, Nat.mod_eq_of_lt h1] at h2
  exact h2

theorem pow_half_even (a n : Nat) (h : n % 2 = 0) : (a * a) ^ (n / 2) = a ^ n := by
  rw [← Nat.pow_two, ← Nat.pow_mul]; congr 1; omega
theorem pow_half_odd (a n : Nat) (h : n % 2 = 1) : a * (a * a) ^ (n / 2) = a ^ n := by
  rw [← Nat.pow_two, ← Nat.pow_mul, Nat.mul_comm, ← Nat.pow_succ]; congr 1; omega

theorem powInv_even {a0 n0 o a n : Nat} (h : PowInv a0 n0 o a n) (he : n % 2 = 0) : PowInv a0 n0 o (a * a % 1543) (n / 2) := by
  obtain ⟨h1, h2, h3, h4⟩ := h
  refine ⟨h1, Nat.mod_lt _ (by decide), by omega, ?_⟩
  rw [← h4, Nat.mul_mod, ← Nat.pow_mod, ← Nat.mul_mod, pow_half_even a n he]

theorem powInv_odd {a0 n0 o a n : Nat} (h : PowInv a0 n0 o a n) (he : n % 2 = 1) : PowInv a0 n0 (o * a % 1543) (a * a % 1543) (n / 2) := by
  obtain ⟨h1, h2, h3, h4⟩ := h
  refine ⟨Nat.mod_lt _ (by decide), Nat.mod_lt _ (by decide), by omega, ?_⟩
  rw [← h4, Nat.mul_mod, ← Nat.pow_mod, Nat.mod_mod, ← Nat.mul_mod, Nat.mul_assoc, pow_half_odd a n he]

theorem mul_bd {x y : Nat} (h : x < 1543) (k : y < 1543) : (0 : Int) ≤ (x : Int) * (y : Int) ∧ (x : Int) * (y : Int) ≤ 2400000 := by
  have h1 : x * y ≤ 1542 * 1542 := Nat.mul_le_mul (by omega) (by omega)
  have h2 : ((x * y : Nat) : Int) ≤ 2400000 := by omega
  have h3 : (0 : Int) ≤ ((x * y : Nat) : Int) := by omega
  rw [Int.natCast_mul] at h2 h3
  exact ⟨h3, h2⟩

/-! Measures. -/
def okM (n : Int) : Bool := decide (0 ≤ n ∧ n ≤ 1000002)
theorem okM_yes {n : Int} (h : okM n = true) : 0 ≤ n ∧ n ≤ 1000002 := of_decide_eq_true h
theorem okM_no {n : Int} (h : okM n = false) : n < 0 ∨ 1000002 < n := by have := of_decide_eq_false h; omega
theorem okM_mk {n : Int} (h : 0 ≤ n) (k : n ≤ 1000002) : okM n = true := decide_eq_true ⟨h, k⟩
def pairM (a b : Int) : Int := (7919 * a + b + 1) % 1000003
theorem pairM_ok (a b : Int) : okM (pairM a b) = true := by
  unfold pairM; exact okM_mk (by omega) (by omega)
def rowM (xs : List Int) : Int := xs.foldl pairM 0
theorem rowM_snoc (xs : List Int) (x : Int) : rowM (xs ++ [x]) = pairM (rowM xs) x := by simp [rowM]
theorem rowM_ok (xs : List Int) : okM (rowM xs) = true := by
  rcases List.eq_nil_or_concat xs with h | ⟨l, b, h⟩
  · subst h; rfl
  · subst h; rw [List.concat_eq_append, rowM_snoc]; exact pairM_ok _ _
theorem take_snoc {α : Type} (xs : List α) (d : α) (k : Nat) (h : k < xs.length) : xs.take (k + 1) = xs.take k ++ [xs.getD k d] := by
  rw [List.take_succ_eq_append_getElem h, List.getD_eq_getElem?_getD, List.getElem?_eq_getElem h]; rfl
theorem rowM_step (xs : List Int) (k : Nat) (h : k < xs.length) : rowM (xs.take (k + 1)) = pairM (rowM (xs.take k)) (xs.getD k 0) := by
  rw [take_snoc xs 0 k h, rowM_snoc]
def stepT (n : Int) (c : UInt8) : Int := (257 * n + (c.toNat : Int) + 1) % 1000003
def textM (l : List UInt8) : Int := l.foldl stepT 1
theorem textM_snoc (l : List UInt8) (c : UInt8) : textM (l ++ [c]) = stepT (textM l) c := by simp [textM]
theorem textM_ok (l : List UInt8) : okM (textM l) = true := by
  rcases List.eq_nil_or_concat l with h | ⟨l', b, h⟩
  · subst h; decide
  · subst h; rw [List.concat_eq_append, textM_snoc]; unfold stepT; exact okM_mk (by omega) (by omega)
theorem textM_step (l : List UInt8) (k : Nat) (h : k < l.length) : textM (l.take (k + 1)) = stepT (textM (l.take k)) (l.getD k 0) := by
  rw [take_snoc l 0 k h, textM_snoc]
def twoE (a b : Int) : Int := if okM a && okM b then 0 else 1
def twoM (a b : Int) : Int := if okM a && okM b then pairM a b else 0
def allE (xs : List Int) : Int := if 30 < xs.length then 4 else if xs.all okM then 0 else 1
def allM (xs : List Int) : Int := if allE xs = 0 then rowM xs else 0
def ofE (l : List UInt8) : Int := if 24 < l.length then 4 else 0
def ofM (l : List UInt8) : Int := if 24 < l.length then 0 else textM l
theorem all_step (xs : List Int) (k : Nat) (h : k < xs.length) (hp : (xs.take k).all okM = true) (hk : okM (xs.getD k 0) = true) : (xs.take (k + 1)).all okM = true := by
  rw [take_snoc xs 0 k h, List.all_append, hp, List.all_cons, List.all_nil, hk]; rfl
theorem all_not (xs : List Int) (k : Nat) (h : k < xs.length) (hk : okM (xs.getD k 0) = false) : xs.all okM = false := by
  rw [List.all_eq_false]
  refine ⟨xs.getD k 0, ?_, by rw [hk]; decide⟩
  rw [List.getD_eq_getElem?_getD, List.getElem?_eq_getElem h]; exact List.getElem_mem h
theorem all_at {xs : List Int} {p : Int → Bool} (h : xs.all p = true) (k : Nat) (hk : k < xs.length) : p (xs.getD k 0) = true := by
  rw [List.all_eq_true] at h
  apply h
  rw [List.getD_eq_getElem?_getD, List.getElem?_eq_getElem hk]; exact List.getElem_mem hk

/-! Keys and seals. -/
def okSecret (x : Int) : Bool := decide (1 ≤ x ∧ x ≤ 256)
theorem okSecret_yes {x : Int} (h : okSecret x = true) : 1 ≤ x ∧ x ≤ 256 := of_decide_eq_true h
theorem okSecret_no {x : Int} (h : okSecret x = false) : x < 1 ∨ 256 < x := by have := of_decide_eq_false h; omega
theorem pwI_bd (a n : Int) : 0 ≤ pwI a n ∧ pwI a n ≤ 1542 := by
  have := pw_lt a.toNat n.toNat
  unfold pwI; omega
def okIn (n : Int) : Bool := decide (1 ≤ n ∧ n ≤ 1542)
theorem okIn_yes {n : Int} (h : okIn n = true) : 1 ≤ n ∧ n ≤ 1542 := of_decide_eq_true h
theorem okIn_no {n : Int} (h : okIn n = false) : n < 1 ∨ 1542 < n := by have := of_decide_eq_false h; omega
theorem okM_of_in {n : Int} (h : okIn n = true) : okM n = true := by have := okIn_yes h; exact okM_mk (by omega) (by omega)
theorem okM_pwI (a n : Int) : okM (pwI a n) = true := by have := pwI_bd a n; exact okM_mk (by omega) (by omega)
def okAns (n : Int) : Bool := decide (0 ≤ n ∧ n ≤ 256)
theorem okAns_yes {n : Int} (h : okAns n = true) : 0 ≤ n ∧ n ≤ 256 := of_decide_eq_true h
theorem okAns_no {n : Int} (h : okAns n = false) : n < 0 ∨ 256 < n := by have := of_decide_eq_false h; omega
def chM (p q m : Int) : Int := rowM [p, q, m] % 257
theorem chM_bd (p q m : Int) : 0 ≤ chM p q m ∧ chM p q m ≤ 256 := by unfold chM; omega
def sealA (x k m : Int) : Int := (k + chM (pwI 64 k) (pwI 64 x) m * x) % 257
def okSign (x k m : Int) : Bool := okSecret x && okSecret k && okM m
def sgP (x k m : Int) : Int := if okSign x k m then pwI 64 k else 0
def sgA (x k m : Int) : Int := if okSign x k m then sealA x k m else 0
def sgE (x k m : Int) : Int := if okSign x k m then 0 else 1
def okSeal (q m p a : Int) : Bool := okIn q && okIn p && okM m && okAns a
def eqSeal (q m p a : Int) : Bool := pwI 64 a == p * pwI q (chM p q m) % 1543
def chkB (q m p a : Int) : Bool := okSeal q m p a && eqSeal q m p a
def chkE (q m p a : Int) : Int := if okSeal q m p a then 0 else 1
def rightE (q m p a : Int) : Int := if okSeal q m p a then (if eqSeal q m p a then 0 else 8) else 1
def pubE (x : Int) : Int := if okSecret x then 0 else 1
def pubM (x : Int) : Int := if okSecret x then pwI 64 x else 0
theorem pubE_yes {x : Int} (h : okSecret x = true) : pubE x = 0 := by simp [pubE, h]
theorem pubM_yes {x : Int} (h : okSecret x = true) : pubM x = pwI 64 x := by simp [pubM, h]
theorem pubE_no {x : Int} (h : okSecret x = false) : pubE x = 1 := by simp [pubE, h]
theorem pubM_no {x : Int} (h : okSecret x = false) : pubM x = 0 := by simp [pubM, h]
theorem mulI_bd {x y : Int} (a : 0 ≤ x) (b : x ≤ 1542) (c : 0 ≤ y) (d : y ≤ 1542) : (0 : Int) ≤ x * y ∧ x * y ≤ 2400000 := by
  obtain ⟨x, rfl⟩ := Int.eq_ofNat_of_zero_le a
  obtain ⟨y, rfl⟩ := Int.eq_ofNat_of_zero_le c
  exact mul_bd (by omega) (by omega)

end Go.Proofs.Ytfklbifgjpocnaa
