/- Plain: who judges: what a mask lacks of what rules ask for; what is wrong with a quote, events and rules, held together. -/
import Derived.Test.YtdedllfgeekogaaDoorNum
import Derived.Test.YtdedllfgeekogaaDoorBase
import Derived.Test.YtdedllfgeekogaaDoorQuote2
namespace Go.Proofs.YtdedllfgeekogaaDoor
open Go.RowKit

theorem askN_bit2 (rs : List (Int × List Int)) (r : Nat) : (askN rs).testBit r = rs.any (fun s => s.1.toNat == r) := by
  have : ∀ (l : List (Int × List Int)) (m : Nat), (l.foldl (fun m r => m ||| 2 ^ r.1.toNat) m).testBit r = (m.testBit r || l.any (fun s => s.1.toNat == r)) := by
    intro l
    induction l with
    | nil => intro m; simp
    | cons s l ih =>
      intro m
      rw [List.foldl_cons, ih, Nat.testBit_or, Nat.testBit_two_pow, List.any_cons, Bool.or_assoc]
      congr 1
  unfold askN
  rw [this, Nat.zero_testBit, Bool.false_or]
theorem bitM_nat2 (n k : Nat) : bitM (n : Int) k = n.testBit k := by
  unfold bitM
  have e : ((n : Int) / 2 ^ k) = ((n / 2 ^ k : Nat) : Int) := by rw [Int.natCast_ediv, Int.natCast_pow]; rfl
  rw [e, Nat.testBit_eq_decide_div_mod_eq]
  have : (((n / 2 ^ k : Nat) : Int) % 2 == 1) = decide (n / 2 ^ k % 2 = 1) := by
    rw [Bool.eq_iff_iff, beq_iff_eq, decide_eq_true_eq]; omega
  exact this
/-- Does a mask ask for all that rules do? -/
def askedB (m : Int) (rs : List (Int × List Int)) : Bool := rs.all fun r => bitM m r.1.toNat
theorem andNot_nat (a m : Nat) (ha : a < 256) (hm : m < 256) : bits .andNot .i64 (a : Int) (m : Int) = ((a &&& (2 ^ 64 - (m + 1)) : Nat) : Int) := by
  have e : ∀ n : Nat, n < 256 → (BitVec.ofInt 64 (n : Int)).toNat = n := fun n hn => by
    rw [BitVec.ofInt_natCast, BitVec.toNat_ofNat]; exact Nat.mod_eq_of_lt (by omega)
  show IntKind.i64.wrap ((BitVec.ofInt 64 (a : Int) &&& ~~~ (BitVec.ofInt 64 (m : Int))).toNat : Int) = _
  rw [BitVec.toNat_and, BitVec.toNat_not, e a ha, e m hm]
  have h1 : a &&& (2 ^ 64 - 1 - m) ≤ a := Nat.and_le_left
  have h2 : 2 ^ 64 - 1 - m = 2 ^ 64 - (m + 1) := by omega
  rw [h2] at h1 ⊢
  rw [IntKind.wrap_i64]
  generalize a &&& (2 ^ 64 - (m + 1)) = z at h1
  omega
theorem andNot_asked (m : Int) (rs : List (Int × List Int)) (h0 : 0 ≤ m) (h1 : m ≤ 255) (hr : ∀ r ∈ rs, okReg r.1 = true) : (bits .andNot .i64 ((askN rs : Nat) : Int) m != 0) = !(askedB m rs) := by
  obtain ⟨m, rfl⟩ := Int.eq_ofNat_of_zero_le h0
  rw [andNot_nat _ _ (askN_lt hr) (by omega)]
  have hm : m < 2 ^ 64 := by omega
  have key : (askN rs &&& (2 ^ 64 - (m + 1)) = 0) ↔ askedB (m : Int) rs = true := by
    unfold askedB
    rw [List.all_eq_true]
    constructor
    · intro h r hr2
      rw [bitM_nat2]
      have h3 : (askN rs &&& (2 ^ 64 - (m + 1))).testBit r.1.toNat = false := by rw [h, Nat.zero_testBit]
      rw [Nat.testBit_and, Nat.testBit_two_pow_sub_succ hm, askN_bit2, List.any_eq_true.2 ⟨r, hr2, by simp⟩] at h3
      have h4 := okReg_yes (hr r hr2)
      have h5 : decide (r.1.toNat < 64) = true := decide_eq_true (by omega)
      rw [h5] at h3
      simpa using h3
    · intro h
      apply Nat.eq_of_testBit_eq
      intro k
      rw [Nat.zero_testBit, Nat.testBit_and, Nat.testBit_two_pow_sub_succ hm, askN_bit2]
      cases hk : rs.any (fun s => s.1.toNat == k)
      · rfl
      · obtain ⟨r, hr2, h3⟩ := List.any_eq_true.1 hk
        have h4 := h r hr2
        rw [bitM_nat2, show r.1.toNat = k from by simpa using h3] at h4
        rw [h4]; simp
  cases ha : askedB (m : Int) rs
  · have h2 : askN rs &&& (2 ^ 64 - (m + 1)) ≠ 0 := fun h => by rw [key.1 h] at ha; exact absurd ha (by decide)
    simp only [Bool.not_false, bne_iff_ne, ne_eq]
    omega
  · rw [key.2 ha]; rfl

def sureT (m d : Int) (es : List (Int × Int)) (rs : List (Int × List Int)) : Int :=
  if isM (evBank es) m = d then (if askedB m rs = true then (if fitM rs (evBank es) = true then 0 else 6) else 5) else 3
def sureE (q n m d p a c : Int) (es : List (Int × Int)) (rs : List (Int × List Int)) : Int :=
  if qcE q n m d p a c = 0 then (if evE es = 0 then (if rulesE rs = 0 then sureT m d es rs else rulesE rs) else evE es) else qcE q n m d p a c
theorem qcE_mask {q n m d p a c : Int} (h : qcE q n m d p a c = 0) : okM c = true ∧ okM n = true ∧ okM d = true ∧ okMask m = true ∧ n = c ∧ rightE q (rowM [n, m, d]) p a = 0 := by
  unfold qcE at h
  cases ho : qcOk n m d c
  · rw [ho, if_neg (by decide)] at h; exact absurd h (by decide)
  · rw [ho, if_pos rfl] at h
    unfold qcOk at ho
    simp only [Bool.and_eq_true] at ho
    by_cases hr : rightE q (rowM [n, m, d]) p a = 0
    · rw [if_pos hr] at h
      by_cases hn : n = c
      · exact ⟨ho.1, ho.2.1, ho.2.2.1, ho.2.2.2, hn, hr⟩
      · rw [if_neg hn] at h; exact absurd h (by decide)
    · rw [if_neg hr] at h; exact absurd h hr
end Go.Proofs.YtdedllfgeekogaaDoor
