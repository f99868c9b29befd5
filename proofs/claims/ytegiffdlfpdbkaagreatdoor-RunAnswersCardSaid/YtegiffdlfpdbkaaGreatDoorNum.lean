/- Plain numbers: powers modulo the group. No program in sight. -/
namespace Go.Proofs.YtegiffdlfpdbkaaGreatDoor

/-- 'a' to the power of 'n', modulo the group. -/
def pw (a n : Nat) : Nat := a ^ n % 1543

theorem pw_lt (a n : Nat) : pw a n < 1543 := Nat.mod_lt _ (by decide)

def pwI (a n : Int) : Int := ((pw a.toNat n.toNat : Nat) : Int)

/-- What holds of power's loop: out, a, n. -/
def PowInv (a0 n0 o a n : Nat) : Prop := o < 1543 ∧ a < 1543 ∧ n ≤ n0 ∧ o * a ^ n % 1543 = a0 ^ n0 % 1543

theorem powInv_start {a n : Nat} (h : a < 1543) : PowInv a n 1 a n := ⟨by omega, h, Nat.le_refl _, by rw [Nat.one_mul]⟩

theorem powInv_end {a0 n0 o a : Nat} (h : PowInv a0 n0 o a 0) : o = pw a0 n0 := by
  obtain ⟨h1, _, _, h2⟩ := h
  rw [Nat.pow_zero, Nat.mul_one, Nat.mod_eq_of_lt h1] at h2
  exact h2

theorem pow_half_even (a n : Nat) (h : n % 2 = 0) : (a * a) ^ (n / 2) = a ^ n := by
  rw [← Nat.pow_two, ← Nat.pow_mul]; congr 1; omega
theorem pow_half_odd (a n : Nat) (h : n % 2 = 1) : a * (a * a) ^ (n / 2) = a ^ n := by
  rw [← Nat.pow_two, ← Nat.pow_mul, Nat.mul_comm, ← Nat.pow_succ]; congr 1; omega

theorem powInv_even {a0 n0 o a n : Nat} (h : PowInv a0 n0 o a n) (he : n % 2 = 0) : PowInv a0 n0 o (a * a % 1543) (n / 2) := by
  obtain ⟨h1, h2, h3, h4⟩ := h
  refine ⟨h1, Nat.mod_lt _ (by decide), by omega, ?_⟩
  rw [← h4, Nat.mul_mod, ← Nat.pow_mod, ← Nat.mul_mod, pow_half_even a n he]

theorem powInv_odd {a0 n0 o a n : Nat} (h : PowInv a0 n0 o a n) (he : n % 2 = 1) : PowInv a0 n0 (o * a % 1543) (a * a % 1543) (n / 2) := by
  obtain ⟨h1, h2, h3, h4⟩ := h
  refine ⟨Nat.mod_lt _ (by decide), Nat.mod_lt _ (by decide), by omega, ?_⟩
  rw [← h4, Nat.mul_mod, ← Nat.pow_mod, Nat.mod_mod, ← Nat.mul_mod, Nat.mul_assoc, pow_half_odd a n he]

theorem mul_bd {x y : Nat} (h : x < 1543) (k : y < 1543) : (0 : Int) ≤ (x : Int) * (y : Int) ∧ (x : Int) * (y : Int) ≤ 2400000 := by
  have h1 : x * y ≤ 1542 * 1542 := Nat.mul_le_mul (by omega) (by omega)
  have h2 : ((x * y : Nat) : Int) ≤ 2400000 := by omega
  have h3 : (0 : Int) ≤ ((x * y : Nat) : Int) := by omega
  rw [Int.natCast_mul] at h2 h3
  exact ⟨h3, h2⟩

/-! Measures. -/
def okM (n : Int) : Bool := decide (0 ≤ n ∧ n ≤ 1000002)
theorem okM_yes {n : Int} (h : okM n = true) : 0 ≤ n ∧ n ≤ 1000002 := of_decide_eq_true h
theorem okM_no {n : Int} (h : okM n = false) : n < 0 ∨ 1000002 < n := by have := of_decide_eq_false h; omega
theorem okM_mk {n : Int} (h : 0 ≤ n) (k : n ≤ 1000002) : okM n = true := decide_eq_true ⟨h, k⟩
def pairM (a b : Int) : Int := (7919 * a + b + 1) % 1000003
theorem pairM_ok (a b : Int) : okM (pairM a b) = true := by
  unfold pairM; exact okM_mk (by omega) (by omega)
def rowM (xs : List Int) : Int := xs.foldl pairM 0
theorem rowM_snoc (xs : List Int) (x : Int) : rowM (xs ++ [x]) = pairM (rowM xs) x := by simp [rowM]
theorem rowM_ok (xs : List Int) : okM (rowM xs) = true := by
  rcases List.eq_nil_or_concat xs with h | ⟨l, b, h⟩
  · subst h; rfl
  · subst h; rw [List.concat_eq_append, rowM_snoc]; exact pairM_ok _ _
theorem take_snoc {α : Type} (xs : List α) (d : α) (k : Nat) (h : k < xs.length) : xs.take (k + 1) = xs.take k ++ [xs.getD k d] := by
  rw [List.take_succ_eq_append_getElem h, List.getD_eq_getElem?_getD, List.getElem?_eq_getElem h]; rfl
theorem rowM_step (xs : List Int) (k : Nat) (h : k < xs.length) : rowM (xs.take (k + 1)) = pairM (rowM (xs.take k)) (xs.getD k 0) := by
  rw [take_snoc xs 0 k h, rowM_snoc]
def stepT (n : Int) (c : UInt8) : Int := (257 * n + (c.toNat : Int) + 1) % 1000003
def textM (l : List UInt8) : Int := l.foldl stepT 1
theorem textM_snoc (l : List UInt8) (c : UInt8) : textM (l ++ [c]) = stepT (textM l) c := by simp [textM]
theorem textM_ok (l : List UInt8) : okM (textM l) = true := by
  rcases List.eq_nil_or_concat l with h | ⟨l', b, h⟩
  · subst h; decide
  · subst h; rw [List.concat_eq_append, textM_snoc]; unfold stepT; exact okM_mk (by omega) (by omega)
theorem textM_step (l : List UInt8) (k : Nat) (h : k < l.length) : textM (l.take (k + 1)) = stepT (textM (l.take k)) (l.getD k 0) := by
  rw [take_snoc l 0 k h, textM_snoc]
def twoE (a b : Int) : Int := if okM a && okM b then 0 else 1
def twoM (a b : Int) : Int := if okM a && okM b then pairM a b else 0
def allE (xs : List Int) : Int := if 30 < xs.length then 4 else if xs.all okM then 0 else 1
def allM (xs : List Int) : Int := if allE xs = 0 then rowM xs else 0
def ofE (l : List UInt8) : Int := if 24 < l.length then 4 else 0
def ofM (l : List UInt8) : Int := if 24 < l.length then 0 else textM l
theorem all_step (xs : List Int) (k : Nat) (h : k < xs.length) (hp : (xs.take k).all okM = true) (hk : okM (xs.getD k 0) = true) : (xs.take (k + 1)).all okM = true := by
  rw [take_snoc xs 0 k h, List.all_append, hp, List.all_cons, List.all_nil, hk]; rfl
theorem all_not (xs : List Int) (k : Nat) (h : k < xs.length) (hk : okM (xs.getD k 0) = false) : xs.all okM = false := by
  rw [List.all_eq_false]
  refine ⟨xs.getD k 0, ?_, by rw [hk]; decide⟩
  rw [List.getD_eq_getElem?_getD, List.getElem?_eq_getElem h]; exact List.getElem_mem h
theorem all_at {xs : List Int} {p : Int → Bool} (h : xs.all p = true) (k : Nat) (hk : k < xs.length) : p (xs.getD k 0) = true := by
  rw [List.all_eq_true] at h
  apply h
  rw [List.getD_eq_getElem?_getD, List.getElem?_eq_getElem hk]; exact List.getElem_mem hk

/-! Keys and seals. -/
def okSecret (x : Int) : Bool := decide (1 ≤ x ∧ x ≤ 256)
theorem okSecret_yes {x : Int} (h : okSecret x = true) : 1 ≤ x ∧ x ≤ 256 := of_decide_eq_true h
theorem okSecret_no {x : Int} (h : okSecret x = false) : x < 1 ∨ 256 < x := by have := of_decide_eq_false h; omega
theorem pwI_bd (a n : Int) : 0 ≤ pwI a n ∧ pwI a n ≤ 1542 := by
  have := pw_lt a.toNat n.toNat
  unfold pwI; omega
def okIn (n : Int) : Bool := decide (1 ≤ n ∧ n ≤ 1542)
theorem okIn_yes {n : Int} (h : okIn n = true) : 1 ≤ n ∧ n ≤ 1542 := of_decide_eq_true h
theorem okIn_no {n : Int} (h : okIn n = false) : n < 1 ∨ 1542 < n := by have := of_decide_eq_false h; omega
theorem okM_of_in {n : Int} (h : okIn n = true) : okM n = true := by have := okIn_yes h; exact okM_mk (by omega) (by omega)
theorem okM_pwI (a n : Int) : okM (pwI a n) = true := by have := pwI_bd a n; exact okM_mk (by omega) (by omega)
def okAns (n : Int) : Bool := decide (0 ≤ n ∧ n ≤ 256)
theorem okAns_yes {n : Int} (h : okAns n = true) : 0 ≤ n ∧ n ≤ 256 := of_decide_eq_true h
theorem okAns_no {n : Int} (h : okAns n = false) : n < 0 ∨ 256 < n := by have := of_decide_eq_false h; omega
def chM (p q m : Int) : Int := rowM [p, q, m] % 257
theorem chM_bd (p q m : Int) : 0 ≤ chM p q m ∧ chM p q m ≤ 256 := by unfold chM; omega
def sealA (x k m : Int) : Int := (k + chM (pwI 64 k) (pwI 64 x) m * x) % 257
def okSign (x k m : Int) : Bool := okSecret x && okSecret k && okM m
def sgP (x k m : Int) : Int := if okSign x k m then pwI 64 k else 0
def sgA (x k m : Int) : Int := if okSign x k m then sealA x k m else 0
def sgE (x k m : Int) : Int := if okSign x k m then 0 else 1
def okSeal (q m p a : Int) : Bool := okIn q && okIn p && okM m && okAns a
def eqSeal (q m p a : Int) : Bool := pwI 64 a == p * pwI q (chM p q m) % 1543
def chkB (q m p a : Int) : Bool := okSeal q m p a && eqSeal q m p a
def chkE (q m p a : Int) : Int := if okSeal q m p a then 0 else 1
def rightE (q m p a : Int) : Int := if okSeal q m p a then (if eqSeal q m p a then 0 else 8) else 1
def pubE (x : Int) : Int := if okSecret x then 0 else 1
def pubM (x : Int) : Int := if okSecret x then pwI 64 x else 0
theorem pubE_yes {x : Int} (h : okSecret x = true) : pubE x = 0 := by simp [pubE, h]
theorem pubM_yes {x : Int} (h : okSecret x = true) : pubM x = pwI 64 x := by simp [pubM, h]
theorem pubE_no {x : Int} (h : okSecret x = false) : pubE x = 1 := by simp [pubE, h]
theorem pubM_no {x : Int} (h : okSecret x = false) : pubM x = 0 := by simp [pubM, h]
/-! Certs: key, point, answer. -/
def lastGo : Int → List (Int × Int × Int) → Int × Int
  | root, [] => (root, 0)
  | root, (k, p, a) :: r => if okIn k then (if rightE root k p a = 0 then lastGo k r else (0, rightE root k p a)) else (0, 1)
def certLast (root : Int) (cs : List (Int × Int × Int)) : Int × Int :=
  if 12 < cs.length then (0, 4) else if okIn root then lastGo root cs else (0, 1)
theorem drop_cons {α : Type} (l : List α) (d : α) (k : Nat) (h : k < l.length) : l.drop k = l.getD k d :: l.drop (k + 1) := by
  rw [List.drop_eq_getElem_cons h, List.getD_eq_getElem?_getD, List.getElem?_eq_getElem h]; rfl
theorem mulI_bd {x y : Int} (a : 0 ≤ x) (b : x ≤ 1542) (c : 0 ≤ y) (d : y ≤ 1542) : (0 : Int) ≤ x * y ∧ x * y ≤ 2400000 := by
  obtain ⟨x, rfl⟩ := Int.eq_ofNat_of_zero_le a
  obtain ⟨y, rfl⟩ := Int.eq_ofNat_of_zero_le c
  exact mul_bd (by omega) (by omega)

/-! Banks. -/
def bankE (b : List Int) : Int := if b.all okM then 0 else 1
def okReg (i : Int) : Bool := decide (0 ≤ i ∧ i ≤ 7)
theorem okReg_yes {n : Int} (h : okReg n = true) : 0 ≤ n ∧ n ≤ 7 := of_decide_eq_true h
theorem okReg_no {n : Int} (h : okReg n = false) : n < 0 ∨ 7 < n := by have := of_decide_eq_false h; omega
def okMask (m : Int) : Bool := decide (0 ≤ m ∧ m ≤ 255)
theorem okMask_yes {n : Int} (h : okMask n = true) : 0 ≤ n ∧ n ≤ 255 := of_decide_eq_true h
theorem okMask_no {n : Int} (h : okMask n = false) : n < 0 ∨ 255 < n := by have := of_decide_eq_false h; omega
/-- Does a mask ask for a register? -/
def bitM (m : Int) (k : Nat) : Bool := (m / 2 ^ k) % 2 == 1
def toldK (b : List Int) (m : Int) (k : Nat) : List Int := ((List.range k).filter (bitM m)).map (fun i => b.getD i 0)
theorem toldK_succ (b : List Int) (m : Int) (k : Nat) : toldK b m (k + 1) = toldK b m k ++ (if bitM m k then [b.getD k 0] else []) := by
  unfold toldK
  rw [List.range_succ, List.filter_append, List.map_append]
  cases h : bitM m k <;> simp [h]
theorem toldK_len (b : List Int) (m : Int) (k : Nat) : (toldK b m k).length ≤ k := by
  unfold toldK
  rw [List.length_map]
  exact Nat.le_trans (List.length_filter_le _ _) (by rw [List.length_range]; exact Nat.le_refl _)
def toldM (b : List Int) (m : Int) : List Int := toldK b m 8
theorem toldM_ok {b : List Int} (m : Int) (h : b.all okM = true) : (toldM b m).all okM = true := by
  unfold toldM toldK
  rw [List.all_eq_true] at *
  intro x hx
  obtain ⟨i, _, rfl⟩ := List.mem_map.1 hx
  by_cases hi : i < b.length
  · rw [List.getD_eq_getElem?_getD, List.getElem?_eq_getElem hi]; exact h _ (List.getElem_mem hi)
  · rw [List.getD_eq_getElem?_getD, List.getElem?_eq_none (by omega)]; rfl
def isM (b : List Int) (m : Int) : Int := rowM (toldM b m)
def digE (b : List Int) (m : Int) : Int := if b.all okM && okMask m then 0 else 1
def digM (b : List Int) (m : Int) : Int := if b.all okM && okMask m then isM b m else 0
def extOk (b : List Int) (i m : Int) : Bool := b.all okM && okReg i && okM m
def extE (b : List Int) (i m : Int) : Int := if extOk b i m then 0 else 1
def extB (b : List Int) (i m : Int) : List Int := if extOk b i m then b.set i.toNat (pairM (b.getD i.toNat 0) m) else [0, 0, 0, 0, 0, 0, 0, 0]
def sameE (a b : List Int) (m : Int) : Int := if a.all okM && b.all okM && okMask m then 0 else 1
def sameB (a b : List Int) (m : Int) : Bool := a.all okM && b.all okM && okMask m && (toldM a m == toldM b m)

theorem told_zero (b : List Int) : toldM b 0 = [] := by
  unfold toldM toldK
  have : (List.range 8).filter (bitM 0) = [] := by decide
  rw [this]; rfl
theorem isM_zero (b : List Int) : isM b 0 = 0 := by unfold isM; rw [told_zero]; rfl
theorem bankE_yes {b : List Int} (h : b.all okM = true) : bankE b = 0 := by unfold bankE; rw [h]; rfl
theorem bankE_no {b : List Int} (h : b.all okM = false) : bankE b = 1 := by unfold bankE; rw [h]; rfl

/-! Rules. -/
def ruleGo : List (Int × List Int) → List (Int × List Int) → Int
  | _, [] => 0
  | prev, r :: rest => if okReg r.1 then (if 12 < r.2.length then 4 else if r.2.all okM then (if prev.any (fun s => s.1 == r.1) then 7 else ruleGo (prev ++ [r]) rest) else 1) else 1
def rulesE (rs : List (Int × List Int)) : Int := if 8 < rs.length then 4 else ruleGo [] rs
def fitBad (b : List Int) (x : Int × List Int) : Bool := !(x.2.any (fun y => b.getD x.1.toNat 0 == y))
def fitM (rs : List (Int × List Int)) (b : List Int) : Bool := !(rs.any (fitBad b))
def fitsE (rs : List (Int × List Int)) (b : List Int) : Int := if rulesE rs = 0 then bankE b else rulesE rs
def fitsB (rs : List (Int × List Int)) (b : List Int) : Bool := decide (rulesE rs = 0) && b.all okM && fitM rs b
def askN (rs : List (Int × List Int)) : Nat := rs.foldl (fun m r => m ||| 2 ^ r.1.toNat) 0
theorem askN_snoc (rs : List (Int × List Int)) (r : Int × List Int) : askN (rs ++ [r]) = askN rs ||| 2 ^ r.1.toNat := by simp [askN]
def maskE (rs : List (Int × List Int)) : Int := rulesE rs
def maskM (rs : List (Int × List Int)) : Int := if rulesE rs = 0 then (askN rs : Int) else 0
theorem ruleGo_ok {rs prev : List (Int × List Int)} (h : ruleGo prev rs = 0) : ∀ r ∈ rs, okReg r.1 = true ∧ r.2.length ≤ 12 ∧ r.2.all okM = true := by
  induction rs generalizing prev with
  | nil => intro r hr; cases hr
  | cons r rest ih =>
    unfold ruleGo at h
    intro x hx
    by_cases h1 : okReg r.1 = true
    · rw [if_pos h1] at h
      by_cases h2 : 12 < r.2.length
      · rw [if_pos h2] at h; cases h
      · rw [if_neg h2] at h
        by_cases h3 : r.2.all okM = true
        · rw [if_pos h3] at h
          by_cases h4 : prev.any (fun s => s.1 == r.1) = true
          · rw [if_pos h4] at h; cases h
          · rw [if_neg h4] at h
            rcases List.mem_cons.1 hx with rfl | hx
            · exact ⟨h1, by omega, h3⟩
            · exact ih h x hx
        · rw [if_neg h3] at h; cases h
    · rw [if_neg h1] at h; cases h
theorem rulesE_ok {rs : List (Int × List Int)} (h : rulesE rs = 0) : rs.length ≤ 8 ∧ ∀ r ∈ rs, okReg r.1 = true ∧ r.2.length ≤ 12 ∧ r.2.all okM = true := by
  unfold rulesE at h
  by_cases h1 : 8 < rs.length
  · rw [if_pos h1] at h; cases h
  · rw [if_neg h1] at h; exact ⟨by omega, ruleGo_ok h⟩
theorem askN_lt {rs : List (Int × List Int)} (h : ∀ r ∈ rs, okReg r.1 = true) : askN rs < 256 := by
  have : ∀ (l : List (Int × List Int)) (m : Nat), m < 256 → (∀ r ∈ l, okReg r.1 = true) → l.foldl (fun m r => m ||| 2 ^ r.1.toNat) m < 256 := by
    intro l
    induction l with
    | nil => intro m hm _; exact hm
    | cons r l ih =>
      intro m hm hr
      have hr1 := okReg_yes (hr r (List.mem_cons_self ..))
      have h2 : 2 ^ r.1.toNat < 256 := Nat.lt_of_le_of_lt (Nat.pow_le_pow_right (by decide) (by omega : r.1.toNat ≤ 7)) (by decide)
      exact ih _ (Nat.or_lt_two_pow (n := 8) hm h2) (fun x hx => hr x (List.mem_cons_of_mem _ hx))
  exact this rs 0 (by decide) h

/-! Boxes. -/
def clE (s m : Int) (b : List Int) : Int := if okM s then digE b m else 1
def clOk (s m : Int) (b : List Int) : Bool := okM s && decide (digE b m = 0)
def clM (s m : Int) (b : List Int) : Int := if clOk s m b then m else 0
def clL (s m : Int) (b : List Int) : Int := if clOk s m b then pairM (digM b m) 1 else 0
def clI (s m : Int) (b : List Int) : Int := if clOk s m b then (s + pairM (digM b m) 2) % 1000003 else 0
def opE (m l n : Int) (b : List Int) : Int := if okM l && okM n then (if digE b m = 0 then (if pairM (digM b m) 1 = l then 0 else 8) else digE b m) else 1
def opM (m l n : Int) (b : List Int) : Int := if opE m l n b = 0 then (n - pairM (digM b m) 2 + 1000003) % 1000003 else 0
theorem digE_01 (b : List Int) (m : Int) : digE b m = 0 ∨ digE b m = 1 := by unfold digE; split <;> simp
theorem digM_ok (b : List Int) (m : Int) : okM (digM b m) = true := by
  unfold digM isM
  split
  · exact rowM_ok _
  · rfl

theorem told_all (x0 x1 x2 x3 x4 x5 x6 x7 : Int) : toldM [x0, x1, x2, x3, x4, x5, x6, x7] 255 = [x0, x1, x2, x3, x4, x5, x6, x7] := by
  have h : (List.range 8).filter (bitM 255) = [0, 1, 2, 3, 4, 5, 6, 7] := by decide
  unfold toldM toldK; rw [h]; rfl
theorem set_getD (b : List Int) (i k : Nat) (v : Int) (h : k ≠ i) : (b.set i v).getD k 0 = b.getD k 0 := by
  rw [List.getD_eq_getElem?_getD, List.getD_eq_getElem?_getD, List.getElem?_set_ne (Ne.symm h)]
theorem pairM_inj {a m k : Int} (hm : okM m = true) (hk : okM k = true) : (pairM a m = pairM a k) ↔ m = k := by
  obtain ⟨m1, m2⟩ := okM_yes hm
  obtain ⟨k1, k2⟩ := okM_yes hk
  unfold pairM
  constructor
  · intro h; omega
  · intro h; rw [h]
theorem set_eq {b : List Int} {i : Nat} (hi : i < b.length) {u v : Int} : (b.set i u = b.set i v) ↔ u = v := by
  constructor
  · intro h
    have h1 : (b.set i u)[i]? = (b.set i v)[i]? := by rw [h]
    rw [List.getElem?_set_self hi, List.getElem?_set_self hi] at h1
    exact Option.some.inj h1
  · intro h; rw [h]

/-! Events: a register, a measure. -/
def okEv (x : Int × Int) : Bool := okReg x.1 && okM x.2
def evE (es : List (Int × Int)) : Int := if 30 < es.length then 4 else if es.all okEv then 0 else 1
def evStep (b : List Int) (e : Int × Int) : List Int := b.set e.1.toNat (pairM (b.getD e.1.toNat 0) e.2)
def evBank (es : List (Int × Int)) : List Int := es.foldl evStep [0, 0, 0, 0, 0, 0, 0, 0]
theorem evBank_snoc (es : List (Int × Int)) (e : Int × Int) : evBank (es ++ [e]) = evStep (evBank es) e := by simp [evBank]
theorem evStep_len (b : List Int) (e : Int × Int) : (evStep b e).length = b.length := by simp [evStep]
theorem evFold_len (es : List (Int × Int)) (b : List Int) : (es.foldl evStep b).length = b.length := by
  induction es generalizing b with
  | nil => rfl
  | cons e es ih => rw [List.foldl_cons, ih, evStep_len]
theorem evBank_len (es : List (Int × Int)) : (evBank es).length = 8 := evFold_len es _
theorem all_set {b : List Int} {i : Nat} {v : Int} (h : b.all okM = true) (hv : okM v = true) : (b.set i v).all okM = true := by
  rw [List.all_eq_true] at *
  intro x hx
  rcases List.mem_or_eq_of_mem_set hx with h1 | h1
  · exact h x h1
  · rw [h1]; exact hv
theorem evStep_ok {b : List Int} {e : Int × Int} (h : b.all okM = true) : (evStep b e).all okM = true := all_set h (pairM_ok _ _)
theorem evFold_ok (es : List (Int × Int)) (b : List Int) (h : b.all okM = true) : (es.foldl evStep b).all okM = true := by
  induction es generalizing b with
  | nil => exact h
  | cons e es ih => exact ih _ (evStep_ok h)
theorem evBank_ok (es : List (Int × Int)) : (evBank es).all okM = true := evFold_ok es _ (by decide)
theorem list8 {b : List Int} (h : b.length = 8) : ∃ y0 y1 y2 y3 y4 y5 y6 y7, b = [y0, y1, y2, y3, y4, y5, y6, y7] := by
  match b, h with
  | [y0, y1, y2, y3, y4, y5, y6, y7], _ => exact ⟨y0, y1, y2, y3, y4, y5, y6, y7, rfl⟩
def repB (es : List (Int × Int)) : List Int := if evE es = 0 then evBank es else [0, 0, 0, 0, 0, 0, 0, 0]

end Go.Proofs.YtegiffdlfpdbkaaGreatDoor
