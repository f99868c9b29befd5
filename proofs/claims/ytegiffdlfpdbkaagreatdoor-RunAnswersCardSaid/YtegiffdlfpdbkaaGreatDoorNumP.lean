/- Numbers in words: which texts are the numeral of a number, plainly. -/
import Derived.Test.YtegiffdlfpdbkaaGreatDoorRows
import Derived.Lib.ItoaNum
import Derived.Lib.ItoaMem
import Derived.Lib.AtoiAll
namespace Go.Proofs.YtegiffdlfpdbkaaGreatDoor
set_option maxRecDepth 100000
set_option linter.unusedVariables false
set_option linter.unusedSimpArgs false

def isDig (c : UInt8) : Bool := decide (48 ≤ c.toNat ∧ c.toNat ≤ 57)
def valN (l : List UInt8) : Nat := l.foldl (fun a c => a * 10 + (c.toNat - 48)) 0
/-- A numeral without a needless nought. -/
def canN (l : List UInt8) : Bool := !l.isEmpty && l.all isDig && (decide (l.length ≤ 1) || !(l.headD 0).toNat == 48)
theorem isDig_yes {c : UInt8} (h : isDig c = true) : 48 ≤ c.toNat ∧ c.toNat ≤ 57 := of_decide_eq_true h
theorem valN_snoc (l : List UInt8) (c : UInt8) : valN (l ++ [c]) = valN l * 10 + (c.toNat - 48) := by unfold valN; rw [List.foldl_append]; rfl
theorem parse_dig : ∀ (l : List UInt8) (acc : Nat), l.all isDig = true → (acc + 1) * 10 ^ l.length ≤ 1000000000000000 → Lib.parseUint10 acc l = .ok (l.foldl (fun a c => a * 10 + (c.toNat - 48)) acc)
  | [], acc, _, _ => rfl
  | c :: r, acc, h, hb => by
    simp only [List.all_cons, Bool.and_eq_true] at h
    have hd := isDig_yes h.1
    rw [List.length_cons, Nat.pow_succ] at hb
    have hp : 1 ≤ 10 ^ r.length := Nat.pow_pos (by decide)
    have e : (acc + 1) * (10 ^ r.length * 10) = ((acc + 1) * 10) * 10 ^ r.length := by rw [Nat.mul_comm (10 ^ r.length) 10, Nat.mul_assoc]
    have h1 : (acc + 1) * 10 ≤ ((acc + 1) * 10) * 10 ^ r.length := Nat.le_mul_of_pos_right _ hp
    have h2 : (acc * 10 + (c.toNat - 48) + 1) * 10 ^ r.length ≤ ((acc + 1) * 10) * 10 ^ r.length := Nat.mul_le_mul_right _ (by omega)
    unfold Lib.parseUint10
    rw [if_pos hd, if_neg (by omega), if_neg (by omega)]
    exact parse_dig r (acc * 10 + (c.toNat - 48)) h.2 (by omega)
theorem canN_parts {l : List UInt8} (h : canN l = true) : l ≠ [] ∧ l.all isDig = true ∧ (l.length ≤ 1 ∨ (l.headD 0).toNat ≠ 48) := by
  unfold canN at h
  simp only [Bool.and_eq_true, Bool.or_eq_true, decide_eq_true_eq, Bool.not_eq_true', beq_iff_eq] at h
  refine ⟨fun e => by subst e; simp at h, h.1.2, ?_⟩
  rcases h.2 with h | h
  · exact Or.inl h
  · exact Or.inr (by simpa using h)
theorem canN_mk {l : List UInt8} (h1 : l ≠ []) (h2 : l.all isDig = true) (h3 : l.length ≤ 1 ∨ (l.headD 0).toNat ≠ 48) : canN l = true := by
  unfold canN
  have e1 : l.isEmpty = false := by cases l; exact absurd rfl h1; rfl
  rw [e1, h2]
  rcases h3 with h | h
  · simp [h]
  · have h' : ¬ (l.head?.getD 0).toNat = 48 := by simpa using h
    simp [h']
/-- What Atoi makes of a numeral. -/
theorem atoi_can7 {l : List UInt8} (h : canN l = true) (hl : l.length ≤ 7) : Lib.atoiAll l = .ok (valN l : Int) ∧ valN l + 1 ≤ 10 ^ l.length := by
  obtain ⟨h1, h2, _⟩ := canN_parts h
  rcases l with _ | ⟨c, r⟩
  · exact absurd rfl h1
  have hd := isDig_yes (by simp only [List.all_cons, Bool.and_eq_true] at h2; exact h2.1)
  have hp := parse_dig (c :: r) 0 h2 (by
    have : 10 ^ (c :: r).length ≤ 10 ^ 7 := Nat.pow_le_pow_right (by decide) hl
    omega)
  have hv : valN (c :: r) + 1 ≤ 10 ^ (c :: r).length := by
    have gen : ∀ (l : List UInt8) (a : Nat), l.all isDig = true → l.foldl (fun a c => a * 10 + (c.toNat - 48)) a + 1 ≤ (a + 1) * 10 ^ l.length := by
      intro l
      induction l with
      | nil => intro a _; simp
      | cons c r ih =>
        intro a h
        simp only [List.all_cons, Bool.and_eq_true] at h
        have hd := isDig_yes h.1
        have := ih (a * 10 + (c.toNat - 48)) h.2
        rw [List.length_cons, Nat.pow_succ, List.foldl_cons]
        have h2 : (a * 10 + (c.toNat - 48) + 1) * 10 ^ r.length ≤ ((a + 1) * 10) * 10 ^ r.length := Nat.mul_le_mul_right _ (by omega)
        have e : (a + 1) * (10 ^ r.length * 10) = ((a + 1) * 10) * 10 ^ r.length := by rw [Nat.mul_comm (10 ^ r.length) 10, Nat.mul_assoc]
        omega
    have h3 := gen (c :: r) 0 h2
    unfold valN
    omega
  refine ⟨?_, hv⟩
  unfold Lib.atoiAll
  have hm : Lib.parseMag (c :: r) = .ok (valN (c :: r)) := by unfold Lib.parseMag; rw [if_neg (by simp)]; exact hp
  simp only [show ¬ (c.toNat = 43 ∨ c.toNat = 45) by omega, if_false, hm]
  have hn : ¬ c.toNat = 45 := by omega
  have hb : valN (c :: r) ≤ 9999999 := by
    have h4 : 10 ^ (c :: r).length ≤ 10 ^ 7 := Nat.pow_le_pow_right (by decide) hl
    omega
  rw [if_neg (by omega), if_neg (by omega), if_neg hn]
theorem atoi_can {l : List UInt8} (h : canN l = true) (hl : l.length ≤ 4) : Lib.atoiAll l = .ok (valN l : Int) ∧ valN l ≤ 9999 := by
  obtain ⟨h1, h2⟩ := atoi_can7 h (by omega)
  have h4 : 10 ^ l.length ≤ 10 ^ 4 := Nat.pow_le_pow_right (by decide) hl
  exact ⟨h1, by omega⟩
/-- The numeral of a numeral's value is itself. -/
theorem digits_can : ∀ (k : Nat) (l : List UInt8), l.length = k → canN l = true → Lib.decDigits (valN l) = l := by
  intro k
  induction k using Nat.strongRecOn with
  | _ k ih =>
    intro l hk h
    obtain ⟨h1, h2, h3⟩ := canN_parts h
    obtain ⟨l', c, rfl⟩ : ∃ l' c, l = l' ++ [c] := ⟨l.dropLast, l.getLast h1, (List.dropLast_concat_getLast h1).symm⟩
    rw [List.all_append] at h2
    simp only [List.all_cons, List.all_nil, Bool.and_true, Bool.and_eq_true] at h2
    have hd := isDig_yes h2.2
    have hc : UInt8.ofNat (48 + (c.toNat - 48)) = c := by
      rw [show 48 + (c.toNat - 48) = c.toNat by omega]
      simp
    rw [valN_snoc]
    rcases l' with _ | ⟨x, r⟩
    · have e : valN [] * 10 + (c.toNat - 48) = c.toNat - 48 := by simp [valN]
      rw [e]
      unfold Lib.decDigits
      rw [dif_pos (by omega), hc]; rfl
    · have hx : x.toNat ≠ 48 := by
        rcases h3 with h3 | h3
        · simp at h3
        · simpa using h3
      have hcan : canN (x :: r) = true := canN_mk (by simp) h2.1 (Or.inr (by simpa using hx))
      have hv := ih (x :: r).length (by rw [← hk]; simp) (x :: r) rfl hcan
      have hpos : 1 ≤ valN (x :: r) := by
        rcases Nat.eq_zero_or_pos (valN (x :: r)) with h0 | h0
        · rw [h0] at hv
          unfold Lib.decDigits at hv
          rw [dif_pos (by decide)] at hv
          injection hv with hv _
          exact absurd (by rw [← hv]; rfl) hx
        · exact h0
      have e1 : (valN (x :: r) * 10 + (c.toNat - 48)) / 10 = valN (x :: r) := by omega
      have e2 : (valN (x :: r) * 10 + (c.toNat - 48)) % 10 = c.toNat - 48 := by omega
      unfold Lib.decDigits
      rw [dif_neg (by omega), e1, e2, hv, hc]
/-- A number's numeral is one, and its value is the number. -/
theorem can_digits : ∀ n : Nat, canN (Lib.decDigits n) = true ∧ valN (Lib.decDigits n) = n := by
  intro n
  induction n using Nat.strongRecOn with
  | _ n ih =>
    by_cases hn : n < 10
    · unfold Lib.decDigits
      rw [dif_pos hn]
      have hd : (UInt8.ofNat (48 + n)).toNat = 48 + n := by simp; omega
      refine ⟨canN_mk (by simp) (by simp [isDig, hd]; omega) (Or.inl (by simp)), ?_⟩
      unfold valN
      simp only [List.foldl_cons, List.foldl_nil, hd]
      omega
    · obtain ⟨h1, h2⟩ := ih (n / 10) (by omega)
      obtain ⟨p1, p2, p3⟩ := canN_parts h1
      have hd : (UInt8.ofNat (48 + n % 10)).toNat = 48 + n % 10 := by simp; omega
      have hnz : ((Lib.decDigits (n / 10)).headD 0).toNat ≠ 48 := by
        rcases p3 with p3 | p3
        · intro h48
          obtain ⟨x, hx⟩ : ∃ x, Lib.decDigits (n / 10) = [x] := by
            rcases hq : Lib.decDigits (n / 10) with _ | ⟨x, _ | ⟨y, r⟩⟩
            · exact absurd hq p1
            · exact ⟨x, rfl⟩
            · rw [hq] at p3; simp at p3
          rw [hx] at h2 h48
          unfold valN at h2
          simp only [List.foldl_cons, List.foldl_nil, List.headD_cons] at h2 h48
          omega
        · exact p3
      unfold Lib.decDigits
      rw [dif_neg hn]
      refine ⟨canN_mk (by simp) ?_ (Or.inr ?_), ?_⟩
      · rw [List.all_append, p2]; simp [isDig, hd]; omega
      · rcases hq : Lib.decDigits (n / 10) with _ | ⟨x, r⟩
        · exact absurd hq p1
        · rw [hq] at hnz; simpa using hnz
      · rw [valN_snoc, h2, hd]; omega
/-- What is asked of a number: it is just that it is a numeral of seven digits at most. -/
theorem parse_num7 (l : List UInt8) (n : Int) (hl : l.length ≤ 7) : (Lib.atoiAll l = .ok n ∧ 0 ≤ n ∧ Lib.itoa n = l) ↔ (canN l = true ∧ n = (valN l : Int)) := by
  constructor
  · rintro ⟨_, h1, h2⟩
    obtain ⟨m, rfl⟩ := Int.eq_ofNat_of_zero_le h1
    rw [Lib.itoa_nonneg] at h2
    obtain ⟨p1, p2⟩ := can_digits m
    rw [h2] at p1 p2
    exact ⟨p1, by rw [p2]⟩
  · rintro ⟨h1, rfl⟩
    refine ⟨(atoi_can7 h1 hl).1, by omega, ?_⟩
    rw [Lib.itoa_nonneg]
    exact digits_can _ l rfl h1

/-- What image.Parse asks of its number: it is just that it is a numeral of four digits at most. -/
theorem parse_num (l : List UInt8) (n : Int) (hl : l.length ≤ 4) : (Lib.atoiAll l = .ok n ∧ 0 ≤ n ∧ Lib.itoa n = l) ↔ (canN l = true ∧ n = (valN l : Int)) := by
  constructor
  · rintro ⟨_, h1, h2⟩
    obtain ⟨m, rfl⟩ := Int.eq_ofNat_of_zero_le h1
    rw [Lib.itoa_nonneg] at h2
    obtain ⟨p1, p2⟩ := can_digits m
    rw [h2] at p1 p2
    exact ⟨p1, by rw [p2]⟩
  · rintro ⟨h1, rfl⟩
    refine ⟨(atoi_can h1 hl).1, by omega, ?_⟩
    rw [Lib.itoa_nonneg]
    exact digits_can _ l rfl h1

end Go.Proofs.YtegiffdlfpdbkaaGreatDoor
