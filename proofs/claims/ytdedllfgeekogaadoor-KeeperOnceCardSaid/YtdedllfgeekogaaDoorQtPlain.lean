/- Plain: quotes that are made, checked, and judged. -/
import Derived.Test.YtdedllfgeekogaaDoorNum
import Derived.Test.YtdedllfgeekogaaDoorQuote
import Derived.Test.YtdedllfgeekogaaDoorQuote2
import Derived.Test.YtdedllfgeekogaaDoorCcPlain
import Derived.Test.YtdedllfgeekogaaDoorJdPlain
namespace Go.Proofs.YtdedllfgeekogaaDoor

theorem lit_make : mkE 5 7 9 1 [0, 0, 0, 0, 0, 0, 0, 0] = 0 := by decide
theorem lit_made : ∃ d p a, mkV 5 7 9 1 [0, 0, 0, 0, 0, 0, 0, 0] = (9, 1, d, p, a) := ⟨_, _, _, by unfold mkV; rw [if_pos lit_make]⟩
/-- What a quote that is made is. -/
theorem make_ok {x k n m : Int} {b : List Int} (h : mkE x k n m b = 0) : okM n = true ∧ b.all okM = true ∧ okMask m = true ∧ okSecret x = true ∧ okM (isM b m) = true ∧
    mkV x k n m b = (n, m, isM b m, sgP x k (rowM [n, m, isM b m]), sgA x k (rowM [n, m, isM b m])) ∧ sgE x k (rowM [n, m, isM b m]) = 0 := by
  have hv : mkV x k n m b = (n, m, digM b m, sgP x k (rowM [n, m, digM b m]), sgA x k (rowM [n, m, digM b m])) := by unfold mkV; rw [if_pos h]
  unfold mkE at h
  cases hn : okM n
  · rw [hn, if_neg (by decide)] at h; exact absurd h (by decide)
  · rw [hn, if_pos rfl] at h
    by_cases hd : digE b m = 0
    · rw [if_pos hd] at h
      unfold digE at hd
      cases hb : (b.all okM && okMask m)
      · rw [hb] at hd; exact absurd hd (by decide)
      · obtain ⟨h1, h2⟩ := Bool.and_eq_true_iff.1 hb
        have hdm : digM b m = isM b m := by unfold digM; rw [hb, if_pos rfl]
        rw [hdm] at h hv
        refine ⟨rfl, h1, h2, ?_, by unfold isM; exact rowM_ok _, hv, h⟩
        unfold sgE at h
        cases ho : okSign x k (rowM [n, m, isM b m])
        · rw [ho] at h; exact absurd h (by decide)
        · unfold okSign at ho
          simp only [Bool.and_eq_true] at ho
          exact ho.1.1
    · rw [if_neg hd] at h; exact absurd h hd
theorem tells_of {d m : Int} {c : List Int} (hd : okM d = true) (hm : okMask m = true) (hc : c.all okM = true) : qtE d m c = 0 ∧ qtB d m c = (isM c m == d) := by
  have h1 : digM c m = isM c m := by unfold digM; rw [hc, hm]; rfl
  have h2 : digE c m = 0 := by unfold digE; rw [hc, hm]; rfl
  exact ⟨by unfold qtE; rw [hd, if_pos rfl, h2], by unfold qtB; rw [hd, h2, h1]; rfl⟩
theorem check_of {Q n m d p a c : Int} (hn : okM n = true) (hd : okM d = true) (hm : okMask m = true) (hr : rightE Q (rowM [n, m, d]) p a = 0) :
    qcE Q n m d p a c = if okM c then (if n = c then 0 else 7) else 1 := by
  unfold qcE qcOk
  rw [hn, hd, hm, hr]
  cases okM c <;> rfl

theorem evE_all {es : List (Int × Int)} (h : evE es = 0) : es.all okEv = true := by
  unfold evE at h
  by_cases h1 : 30 < es.length
  · rw [if_pos h1] at h; exact absurd h (by decide)
  · rw [if_neg h1] at h
    cases h2 : es.all okEv
    · rw [h2] at h; exact absurd h (by decide)
    · rfl
/-- A quote that is made of the bank that events come to. -/
theorem sure_of {x k n m : Int} {es : List (Int × Int)} {rs : List (Int × List Int)} {P A : Int} (hm : mkE x k n m (evBank es) = 0) (he : evE es = 0)
    (hP : sgP x k (rowM [n, m, isM (evBank es) m]) = P) (hA : sgA x k (rowM [n, m, isM (evBank es) m]) = A) :
    sureE (pwI 64 x) n m (isM (evBank es) m) P A n es rs = if rulesE rs = 0 then (if askedB m rs = true then (if fitM rs (evBank es) = true then 0 else 6) else 5) else rulesE rs := by
  obtain ⟨h1, h2, h3, h4, h5, h6, h7⟩ := make_ok hm
  have hr := made_right h4 h7
  rw [hP, hA] at hr
  have hq : qcE (pwI 64 x) n m (isM (evBank es) m) P A n = 0 := by
    rw [check_of h1 h5 h3 hr, h1, if_pos rfl, if_pos rfl]
  unfold sureE sureT
  rw [hq, if_pos rfl, he, if_pos rfl, if_pos rfl]
/-- What is sure is so. -/
theorem sure_so {q n m d p a c : Int} {es : List (Int × Int)} {rs : List (Int × List Int)} (h : sureE q n m d p a c es rs = 0) (he : evE es = 0) :
    qcE q n m d p a c = 0 ∧ n = c ∧ qtE d m (evBank es) = 0 ∧ qtB d m (evBank es) = true ∧ rulesE rs = 0 ∧ fitM rs (evBank es) = true := by
  unfold sureE at h
  by_cases h1 : qcE q n m d p a c = 0
  · rw [if_pos h1, if_pos he] at h
    obtain ⟨k1, k2, k3, k4, k5, k6⟩ := qcE_mask h1
    by_cases h2 : rulesE rs = 0
    · rw [if_pos h2] at h
      unfold sureT at h
      by_cases h3 : isM (evBank es) m = d
      · rw [if_pos h3] at h
        by_cases h4 : askedB m rs = true
        · rw [if_pos h4] at h
          by_cases h5 : fitM rs (evBank es) = true
          · have ht := tells_of k3 k4 (evBank_ok es)
            exact ⟨h1, k5, ht.1, by rw [ht.2, h3]; simp, h2, h5⟩
          · rw [if_neg h5] at h; exact absurd h (by decide)
        · rw [if_neg h4] at h; exact absurd h (by decide)
      · rw [if_neg h3] at h; exact absurd h (by decide)
    · rw [if_neg h2] at h; exact absurd h h2
  · rw [if_neg h1] at h; exact absurd h h1
theorem lit_sure {d p a : Int} (h : mkV 5 7 9 1 [0, 0, 0, 0, 0, 0, 0, 0] = (9, 1, d, p, a)) : sureE (pwI 64 5) 9 1 d p a 9 [] [(0, [0])] = 0 := by
  have hv := (make_ok lit_make).2.2.2.2.2.1
  rw [hv] at h
  simp only [Prod.mk.injEq] at h
  obtain ⟨_, _, rfl, rfl, rfl⟩ := h
  have := sure_of (x := 5) (k := 7) (n := 9) (m := 1) (es := []) (rs := [(0, [0])]) lit_make rfl rfl rfl
  exact this.trans (by decide)
/-- What rules ask for, register by register. -/
def askedK (m : Int) (rs : List (Int × List Int)) (k : Nat) : Bool := (List.range k).all fun j => !bitM (askN rs : Int) j || bitM m j
theorem askedK_succ (m : Int) (rs : List (Int × List Int)) (k : Nat) : askedK m rs (k + 1) = (askedK m rs k && (!bitM (askN rs : Int) k || bitM m k)) := by
  unfold askedK
  rw [List.range_succ, List.all_append, List.all_cons, List.all_nil, Bool.and_true]
theorem askedK_all (m : Int) {rs : List (Int × List Int)} (hr : ∀ r ∈ rs, okReg r.1 = true) : askedK m rs 8 = askedB m rs := by
  rw [Bool.eq_iff_iff]
  unfold askedK askedB
  rw [List.all_eq_true, List.all_eq_true]
  constructor
  · intro h r hr2
    have h4 := okReg_yes (hr r hr2)
    have := h r.1.toNat (List.mem_range.2 (by omega))
    rw [bitM_nat2, askN_bit2, List.any_eq_true.2 ⟨r, hr2, by simp⟩] at this
    simpa using this
  · intro h j hj
    rw [bitM_nat2, askN_bit2]
    cases hk : rs.any (fun s => s.1.toNat == j)
    · rfl
    · obtain ⟨r, hr2, h3⟩ := List.any_eq_true.1 hk
      have h4 := h r hr2
      rw [show r.1.toNat = j from by simpa using h3] at h4
      rw [h4]; rfl
end Go.Proofs.YtdedllfgeekogaaDoor
