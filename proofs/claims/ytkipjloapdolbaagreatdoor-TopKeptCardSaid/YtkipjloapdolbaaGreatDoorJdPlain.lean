/- Plain: who judges: what a mask lacks of what rules ask for; what is wrong with a quote, events and rules, held together. Plain: quotes that are made, checked, and judged. -/
import Derived.Test.YtkipjloapdolbaaGreatDoorNum
import Derived.Test.YtkipjloapdolbaaGreatDoorBase
import Derived.Test.YtkipjloapdolbaaGreatDoorQuote
import Derived.Test.YtkipjloapdolbaaGreatDoorSeal
namespace Go.Proofs.YtkipjloapdolbaaGreatDoor
open Go.RowKit

theorem askN_bit2 (rs : List (Int × List Int)) (r : Nat) : (askN rs).testBit r = rs.any (fun s => s.1.toNat == r) := by
  have : ∀ (l : List (Int × List Int)) (m : Nat), (l.foldl (fun m r => m ||| 2 ^ r.1.toNat) m).testBit r = (m.testBit r || l.any (fun s => s.1.toNat == r)) := by
    intro l
    induction l with
    | nil => intro m; simp
    | cons s l ih =>
      intro m
      rw [List.foldl_cons, ih, Nat.testBit_or, Nat.testBit_two_pow, List.any_cons, Bool.or_assoc]
      congr 1
  unfold askN
  rw [this, Nat.zero_testBit, Bool.false_or]
theorem bitM_nat2 (n k : Nat) : bitM (n : Int) k = n.testBit k := by
  unfold bitM
  have e : ((n : Int) / 2 ^ k) = ((n / 2 ^ k : Nat) : Int) := by rw [Int.natCast_ediv, Int.natCast_pow]; rfl
  rw [e, Nat.testBit_eq_decide_div_mod_eq]
  have : (((n / 2 ^ k : Nat) : Int) % 2 == 1) = decide (n / 2 ^ k % 2 = 1) := by
    rw [Bool.eq_iff_iff, beq_iff_eq, decide_eq_true_eq]; omega
  exact this
/-- Does a mask ask for all that rules do? -/
def askedB (m : Int) (rs : List (Int × List Int)) : Bool := rs.all fun r => bitM m r.1.toNat
theorem andNot_nat (a m : Nat) (ha : a < 256) (hm : m < 256) : bits .andNot .i64 (a : Int) (m : Int) = ((a &&& (2 ^ 64 - (m + 1)) : Nat) : Int) := by
  have e : ∀ n : Nat, n < 256 → (BitVec.ofInt 64 (n : Int)).toNat = n := fun n hn => by
    rw [BitVec.ofInt_natCast, BitVec.toNat_ofNat]; exact Nat.mod_eq_of_lt (by omega)
  show IntKind.i64.wrap ((BitVec.ofInt 64 (a : Int) &&& ~~~ (BitVec.ofInt 64 (m : Int))).toNat : Int) = _
  rw [BitVec.toNat_and, BitVec.toNat_not, e a ha, e m hm]
  have h1 : a &&& (2 ^ 64 - 1 - m) ≤ a := Nat.and_le_left
  have h2 : 2 ^ 64 - 1 - m = 2 ^ 64 - (m + 1) := by omega
  rw [h2] at h1 ⊢
  rw [IntKind.wrap_i64]
  generalize a &&& (2 ^ 64 - (m + 1)) = z at h1
  omega
theorem andNot_asked (m : Int) (rs : List (Int × List Int)) (h0 : 0 ≤ m) (h1 : m ≤ 255) (hr : ∀ r ∈ rs, okReg r.1 = true) : (bits .andNot .i64 ((askN rs : Nat) : Int) m != 0) = !(askedB m rs) := by
  obtain ⟨m, rfl⟩ := Int.eq_ofNat_of_zero_le h0
  rw [andNot_nat _ _ (askN_lt hr) (by omega)]
  have hm : m < 2 ^ 64 := by omega
  have key : (askN rs &&& (2 ^ 64 - (m + 1)) = 0) ↔ askedB (m : Int) rs = true := by
    unfold askedB
    rw [List.all_eq_true]
    constructor
    · intro h r hr2
      rw [bitM_nat2]
      have h3 : (askN rs &&& (2 ^ 64 - (m + 1))).testBit r.1.toNat = false := by rw [h, Nat.zero_testBit]
      rw [Nat.testBit_and, Nat.testBit_two_pow_sub_succ hm, askN_bit2, List.any_eq_true.2 ⟨r, hr2, by simp⟩] at h3
      have h4 := okReg_yes (hr r hr2)
      have h5 : decide (r.1.toNat < 64) = true := decide_eq_true (by omega)
      rw [h5] at h3
      simpa using h3
    · intro h
      apply Nat.eq_of_testBit_eq
      intro k
      rw [Nat.zero_testBit, Nat.testBit_and, Nat.testBit_two_pow_sub_succ hm, askN_bit2]
      cases hk : rs.any (fun s => s.1.toNat == k)
      · rfl
      · obtain ⟨r, hr2, h3⟩ := List.any_eq_true.1 hk
        have h4 := h r hr2
        rw [bitM_nat2, show r.1.toNat = k from by simpa using h3] at h4
        rw [h4]; simp
  cases ha : askedB (m : Int) rs
  · have h2 : askN rs &&& (2 ^ 64 - (m + 1)) ≠ 0 := fun h => by rw [key.1 h] at ha; exact absurd ha (by decide)
    simp only [Bool.not_false, bne_iff_ne, ne_eq]
    omega
  · rw [key.2 ha]; rfl

def sureT (m d : Int) (es : List (Int × Int)) (rs : List (Int × List Int)) : Int :=
  if isM (evBank es) m = d then (if askedB m rs = true then (if fitM rs (evBank es) = true then 0 else 6) else 5) else 3
def sureE (q n m d p a c : Int) (es : List (Int × Int)) (rs : List (Int × List Int)) : Int :=
  if qcE q n m d p a c = 0 then (if evE es = 0 then (if rulesE rs = 0 then sureT m d es rs else rulesE rs) else evE es) else qcE q n m d p a c
theorem qcE_mask {q n m d p a c : Int} (h : qcE q n m d p a c = 0) : okM c = true ∧ okM n = true ∧ okM d = true ∧ okMask m = true ∧ n = c ∧ rightE q (rowM [n, m, d]) p a = 0 := by
  unfold qcE at h
  cases ho : qcOk n m d c
  · rw [ho, if_neg (by decide)] at h; exact absurd h (by decide)
  · rw [ho, if_pos rfl] at h
    unfold qcOk at ho
    simp only [Bool.and_eq_true] at ho
    by_cases hr : rightE q (rowM [n, m, d]) p a = 0
    · rw [if_pos hr] at h
      by_cases hn : n = c
      · exact ⟨ho.1, ho.2.1, ho.2.2.1, ho.2.2.2, hn, hr⟩
      · rw [if_neg hn] at h; exact absurd h (by decide)
    · rw [if_neg hr] at h; exact absurd h hr
end Go.Proofs.YtkipjloapdolbaaGreatDoor

namespace Go.Proofs.YtkipjloapdolbaaGreatDoor

theorem lit_make : mkE 5 7 9 1 [0, 0, 0, 0, 0, 0, 0, 0] = 0 := by decide
theorem lit_made : ∃ d p a, mkV 5 7 9 1 [0, 0, 0, 0, 0, 0, 0, 0] = (9, 1, d, p, a) := ⟨_, _, _, by unfold mkV; rw [if_pos lit_make]⟩
/-- What a quote that is made is. -/
theorem make_ok {x k n m : Int} {b : List Int} (h : mkE x k n m b = 0) : okM n = true ∧ b.all okM = true ∧ okMask m = true ∧ okSecret x = true ∧ okM (isM b m) = true ∧
    mkV x k n m b = (n, m, isM b m, sgP x k (rowM [n, m, isM b m]), sgA x k (rowM [n, m, isM b m])) ∧ sgE x k (rowM [n, m, isM b m]) = 0 := by
  have hv : mkV x k n m b = (n, m, digM b m, sgP x k (rowM [n, m, digM b m]), sgA x k (rowM [n, m, digM b m])) := by unfold mkV; rw [if_pos h]
  unfold mkE at h
  cases hn : okM n
  · rw [hn, if_neg (by decide)] at h; exact absurd h (by decide)
  · rw [hn, if_pos rfl] at h
    by_cases hd : digE b m = 0
    · rw [if_pos hd] at h
      unfold digE at hd
      cases hb : (b.all okM && okMask m)
      · rw [hb] at hd; exact absurd hd (by decide)
      · obtain ⟨h1, h2⟩ := Bool.and_eq_true_iff.1 hb
        have hdm : digM b m = isM b m := by unfold digM; rw [hb, if_pos rfl]
        rw [hdm] at h hv
        refine ⟨rfl, h1, h2, ?_, by unfold isM; exact rowM_ok _, hv, h⟩
        unfold sgE at h
        cases ho : okSign x k (rowM [n, m, isM b m])
        · rw [ho] at h; exact absurd h (by decide)
        · unfold okSign at ho
          simp only [Bool.and_eq_true] at ho
          exact ho.1.1
    · rw [if_neg hd] at h; exact absurd h hd
theorem tells_of {d m : Int} {c : List Int} (hd : okM d = true) (hm : okMask m = true) (hc : c.all okM = true) : qtE d m c = 0 ∧ qtB d m c = (isM c m == d) := by
  have h1 : digM c m = isM c m := by unfold digM; rw [hc, hm]; rfl
  have h2 : digE c m = 0 := by unfold digE; rw [hc, hm]; rfl
  exact ⟨by unfold qtE; rw [hd, if_pos rfl, h2], by unfold qtB; rw [hd, h2, h1]; rfl⟩
theorem check_of {Q n m d p a c : Int} (hn : okM n = true) (hd : okM d = true) (hm : okMask m = true) (hr : rightE Q (rowM [n, m, d]) p a = 0) :
    qcE Q n m d p a c = if okM c then (if n = c then 0 else 7) else 1 := by
  unfold qcE qcOk
  rw [hn, hd, hm, hr]
  cases okM c <;> rfl

theorem evE_all {es : List (Int × Int)} (h : evE es = 0) : es.all okEv = true := by
  unfold evE at h
  by_cases h1 : 30 < es.length
  · rw [if_pos h1] at h; exact absurd h (by decide)
  · rw [if_neg h1] at h
    cases h2 : es.all okEv
    · rw [h2] at h; exact absurd h (by decide)
    · rfl
/-- A quote that is made of the bank that events come to. -/
theorem sure_of {x k n m : Int} {es : List (Int × Int)} {rs : List (Int × List Int)} {P A : Int} (hm : mkE x k n m (evBank es) = 0) (he : evE es = 0)
    (hP : sgP x k (rowM [n, m, isM (evBank es) m]) = P) (hA : sgA x k (rowM [n, m, isM (evBank es) m]) = A) :
    sureE (pwI 64 x) n m (isM (evBank es) m) P A n es rs = if rulesE rs = 0 then (if askedB m rs = true then (if fitM rs (evBank es) = true then 0 else 6) else 5) else rulesE rs := by
  obtain ⟨h1, h2, h3, h4, h5, h6, h7⟩ := make_ok hm
  have hr := made_right h4 h7
  rw [hP, hA] at hr
  have hq : qcE (pwI 64 x) n m (isM (evBank es) m) P A n = 0 := by
    rw [check_of h1 h5 h3 hr, h1, if_pos rfl, if_pos rfl]
  unfold sureE sureT
  rw [hq, if_pos rfl, he, if_pos rfl, if_pos rfl]
/-- What is sure is so. -/
theorem sure_so {q n m d p a c : Int} {es : List (Int × Int)} {rs : List (Int × List Int)} (h : sureE q n m d p a c es rs = 0) (he : evE es = 0) :
    qcE q n m d p a c = 0 ∧ n = c ∧ qtE d m (evBank es) = 0 ∧ qtB d m (evBank es) = true ∧ rulesE rs = 0 ∧ fitM rs (evBank es) = true := by
  unfold sureE at h
  by_cases h1 : qcE q n m d p a c = 0
  · rw [if_pos h1, if_pos he] at h
    obtain ⟨k1, k2, k3, k4, k5, k6⟩ := qcE_mask h1
    by_cases h2 : rulesE rs = 0
    · rw [if_pos h2] at h
      unfold sureT at h
      by_cases h3 : isM (evBank es) m = d
      · rw [if_pos h3] at h
        by_cases h4 : askedB m rs = true
        · rw [if_pos h4] at h
          by_cases h5 : fitM rs (evBank es) = true
          · have ht := tells_of k3 k4 (evBank_ok es)
            exact ⟨h1, k5, ht.1, by rw [ht.2, h3]; simp, h2, h5⟩
          · rw [if_neg h5] at h; exact absurd h (by decide)
        · rw [if_neg h4] at h; exact absurd h (by decide)
      · rw [if_neg h3] at h; exact absurd h (by decide)
    · rw [if_neg h2] at h; exact absurd h h2
  · rw [if_neg h1] at h; exact absurd h h1
theorem lit_sure {d p a : Int} (h : mkV 5 7 9 1 [0, 0, 0, 0, 0, 0, 0, 0] = (9, 1, d, p, a)) : sureE (pwI 64 5) 9 1 d p a 9 [] [(0, [0])] = 0 := by
  have hv := (make_ok lit_make).2.2.2.2.2.1
  rw [hv] at h
  simp only [Prod.mk.injEq] at h
  obtain ⟨_, _, rfl, rfl, rfl⟩ := h
  have := sure_of (x := 5) (k := 7) (n := 9) (m := 1) (es := []) (rs := [(0, [0])]) lit_make rfl rfl rfl
  exact this.trans (by decide)
/-- What rules ask for, register by register. -/
def askedK (m : Int) (rs : List (Int × List Int)) (k : Nat) : Bool := (List.range k).all fun j => !bitM (askN rs : Int) j || bitM m j
theorem askedK_succ (m : Int) (rs : List (Int × List Int)) (k : Nat) : askedK m rs (k + 1) = (askedK m rs k && (!bitM (askN rs : Int) k || bitM m k)) := by
  unfold askedK
  rw [List.range_succ, List.all_append, List.all_cons, List.all_nil, Bool.and_true]
theorem askedK_all (m : Int) {rs : List (Int × List Int)} (hr : ∀ r ∈ rs, okReg r.1 = true) : askedK m rs 8 = askedB m rs := by
  rw [Bool.eq_iff_iff]
  unfold askedK askedB
  rw [List.all_eq_true, List.all_eq_true]
  constructor
  · intro h r hr2
    have h4 := okReg_yes (hr r hr2)
    have := h r.1.toNat (List.mem_range.2 (by omega))
    rw [bitM_nat2, askN_bit2, List.any_eq_true.2 ⟨r, hr2, by simp⟩] at this
    simpa using this
  · intro h j hj
    rw [bitM_nat2, askN_bit2]
    cases hk : rs.any (fun s => s.1.toNat == j)
    · rfl
    · obtain ⟨r, hr2, h3⟩ := List.any_eq_true.1 hk
      have h4 := h r hr2
      rw [show r.1.toNat = j from by simpa using h3] at h4
      rw [h4]; rfl
end Go.Proofs.YtkipjloapdolbaaGreatDoor
