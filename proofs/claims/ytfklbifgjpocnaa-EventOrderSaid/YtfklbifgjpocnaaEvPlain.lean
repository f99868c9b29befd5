/- Plain: what touches other registers may change places. No program in sight. -/
import Derived.Test.YtfklbifgjpocnaaNum
namespace Go.Proofs.Ytfklbifgjpocnaa

theorem getD_set_self {b : List Int} {i : Nat} (h : i < b.length) (v : Int) : (b.set i v).getD i 0 = v := by
  rw [List.getD_eq_getElem?_getD, List.getElem?_set_self h]; rfl
theorem getD_ok {b : List Int} (h : b.all okM = true) (i : Nat) : okM (b.getD i 0) = true := by
  by_cases hi : i < b.length
  · exact all_at h i hi
  · rw [List.getD_eq_getElem?_getD, List.getElem?_eq_none (by omega)]; rfl
theorem only_zero (d q : Int) (h : 7919 * d = 1000003 * q) (l : -1000003 < d) (u : d < 1000003) : d = 0 := by
  have e : d = 1000003 * (658671 * q) - 1000003 * (5216 * d) := by omega
  have e2 : d = 1000003 * (658671 * q - 5216 * d) := by rw [Int.mul_sub]; exact e
  obtain ⟨t, ht⟩ : ∃ t, t = 658671 * q - 5216 * d := ⟨_, rfl⟩
  rw [← ht] at e2
  omega
theorem left_num (a c m q : Int) (h : 7919 * a + m + 1 - (7919 * c + m + 1) = 1000003 * q) : 7919 * (a - c) = 1000003 * q := by omega
theorem left_bd {a c : Int} (h : a - c = 0) : a = c := by omega
theorem bd_sub {a c : Int} (a1 : 0 ≤ a) (a2 : a ≤ 1000002) (c1 : 0 ≤ c) (c2 : c ≤ 1000002) : -1000003 < a - c ∧ a - c < 1000003 := by omega
theorem pairM_left {a c m : Int} (ha : okM a = true) (hc : okM c = true) (h : pairM a m = pairM c m) : a = c := by
  obtain ⟨a1, a2⟩ := okM_yes ha
  obtain ⟨c1, c2⟩ := okM_yes hc
  unfold pairM at h
  have h2 := Int.emod_eq_emod_iff_emod_sub_eq_zero.1 h
  obtain ⟨q, hq⟩ := Int.dvd_of_emod_eq_zero h2
  have h3 := left_num a c m q hq
  obtain ⟨l, u⟩ := bd_sub a1 a2 c1 c2
  exact left_bd (only_zero (a - c) q h3 l u)
theorem only_zero2 (d q : Int) (h : 7918 * d = 1000003 * q) (l : -1000003 < d) (u : d < 1000003) : d = 0 := by
  have e : d = 1000003 * (561886 * q) - 1000003 * (4449 * d) := by omega
  have e2 : d = 1000003 * (561886 * q - 4449 * d) := by rw [Int.mul_sub]; exact e
  obtain ⟨t, ht⟩ : ∃ t, t = 561886 * q - 4449 * d := ⟨_, rfl⟩
  rw [← ht] at e2
  omega
theorem swap_num (x m n p q s t r : Int) (h1 : p = x + m + 1 - 1000003 * s) (h2 : q = x + n + 1 - 1000003 * t) (h3 : 7919 * p + n + 1 - (7919 * q + m + 1) = 1000003 * r) : 7918 * (m - n) = 1000003 * (r + 7919 * (s - t)) := by omega
theorem pairM_swap {a m n : Int} (hm : okM m = true) (hn : okM n = true) : pairM (pairM a m) n = pairM (pairM a n) m ↔ m = n := by
  obtain ⟨m1, m2⟩ := okM_yes hm
  obtain ⟨n1, n2⟩ := okM_yes hn
  constructor
  · intro h
    obtain ⟨p, hp⟩ : ∃ p, pairM a m = p := ⟨_, rfl⟩
    obtain ⟨q, hq⟩ : ∃ q, pairM a n = q := ⟨_, rfl⟩
    rw [hp, hq] at h
    unfold pairM at h hp hq
    have h2 := Int.emod_eq_emod_iff_emod_sub_eq_zero.1 h
    obtain ⟨r, hr⟩ := Int.dvd_of_emod_eq_zero h2
    have e1 : p = 7919 * a + m + 1 - 1000003 * ((7919 * a + m + 1) / 1000003) := by rw [← hp, Int.emod_def]
    have e2 : q = 7919 * a + n + 1 - 1000003 * ((7919 * a + n + 1) / 1000003) := by rw [← hq, Int.emod_def]
    have h3 := swap_num _ _ _ _ _ _ _ _ e1 e2 hr
    generalize r + 7919 * ((7919 * a + m + 1) / 1000003 - (7919 * a + n + 1) / 1000003) = z at h3
    clear h h2 hp hq e1 e2 hr
    have := only_zero2 (m - n) _ h3 (by omega) (by omega)
    omega
  · intro h; rw [h]

theorem step_comm (b : List Int) (x y : Int × Int) (h : x.1.toNat ≠ y.1.toNat) : evStep (evStep b x) y = evStep (evStep b y) x := by
  unfold evStep
  rw [set_getD _ _ _ _ (Ne.symm h), set_getD _ _ _ _ h, List.set_comm _ _ h]
theorem step_same (b : List Int) (r : Int) (m n : Int) (hr : r.toNat < b.length) (hm : okM m = true) (hn : okM n = true) : evStep (evStep b (r, m)) (r, n) = evStep (evStep b (r, n)) (r, m) ↔ m = n := by
  unfold evStep
  simp only
  rw [getD_set_self hr, getD_set_self hr, List.set_set, List.set_set, set_eq hr]
  exact pairM_swap hm hn
theorem step_inj {b c : List Int} {e : Int × Int} (hb : b.length = 8) (hc : c.length = 8) (kb : b.all okM = true) (kc : c.all okM = true) (_hr : e.1.toNat < 8) (h : evStep b e = evStep c e) : b = c := by
  apply List.ext_getElem (by omega)
  intro i h1 h2
  have hi : (evStep b e)[i]? = (evStep c e)[i]? := by rw [h]
  unfold evStep at hi
  by_cases he : e.1.toNat = i
  · subst he
    rw [List.getElem?_set_self (by omega), List.getElem?_set_self (by omega)] at hi
    have := pairM_left (getD_ok kb _) (getD_ok kc _) (Option.some.inj hi)
    rw [List.getD_eq_getElem?_getD, List.getD_eq_getElem?_getD, List.getElem?_eq_getElem h1, List.getElem?_eq_getElem h2] at this
    exact this
  · rw [List.getElem?_set_ne he, List.getElem?_set_ne he, List.getElem?_eq_getElem h1, List.getElem?_eq_getElem h2] at hi
    exact Option.some.inj hi
theorem fold_inj (es : List (Int × Int)) : ∀ {b c : List Int}, b.length = 8 → c.length = 8 → b.all okM = true → c.all okM = true → es.all okEv = true → es.foldl evStep b = es.foldl evStep c → b = c := by
  induction es with
  | nil => intro b c _ _ _ _ _ h; exact h
  | cons e es ih =>
    intro b c hb hc kb kc he h
    rw [List.all_cons, Bool.and_eq_true] at he
    have hr : e.1.toNat < 8 := by
      have := okReg_yes (by have := he.1; unfold okEv at this; rw [Bool.and_eq_true] at this; exact this.1 : okReg e.1 = true)
      omega
    exact step_inj hb hc kb kc hr (ih (by rw [evStep_len]; exact hb) (by rw [evStep_len]; exact hc) (evStep_ok kb) (evStep_ok kc) he.2 h)

/-- A row with two neighbours changed about. -/
def swapE (es : List (Int × Int)) (i : Nat) : List (Int × Int) := (es.set i (es.getD (i + 1) (0, 0))).set (i + 1) (es.getD i (0, 0))
theorem swapE_len (es : List (Int × Int)) (i : Nat) : (swapE es i).length = es.length := by simp [swapE]
theorem split2 (es : List (Int × Int)) (i : Nat) (h : i + 1 < es.length) : es = es.take i ++ es.getD i (0, 0) :: es.getD (i + 1) (0, 0) :: es.drop (i + 2) := by
  have h1 := drop_cons es (0, 0) i (by omega)
  have h2 := drop_cons es (0, 0) (i + 1) h
  rw [h2] at h1
  rw [← h1, List.take_append_drop]
theorem swap2 (es : List (Int × Int)) (i : Nat) (h : i + 1 < es.length) : swapE es i = es.take i ++ es.getD (i + 1) (0, 0) :: es.getD i (0, 0) :: es.drop (i + 2) := by
  unfold swapE
  apply List.ext_getElem?
  intro j
  have hl : (es.take i).length = i := by rw [List.length_take]; omega
  rcases Nat.lt_trichotomy j i with hj | hj | hj
  · rw [List.getElem?_set_ne (by omega), List.getElem?_set_ne (by omega), List.getElem?_append_left (by omega), List.getElem?_take_of_lt hj]
  · subst hj
    rw [List.getElem?_set_ne (by omega), List.getElem?_set_self (by omega), List.getElem?_append_right (by omega), hl, Nat.sub_self]; rfl
  · by_cases hj2 : j = i + 1
    · subst hj2
      rw [List.getElem?_set_self (by rw [List.length_set]; omega), List.getElem?_append_right (by omega), hl]
      have : i + 1 - i = 1 := by omega
      rw [this]; rfl
    · rw [List.getElem?_set_ne (by omega), List.getElem?_set_ne (by omega), List.getElem?_append_right (by omega), hl]
      have : j - i = (j - (i + 2)) + 2 := by omega
      rw [this, List.getElem?_cons_succ, List.getElem?_cons_succ, List.getElem?_drop]
      congr 1; omega

theorem evE_mem {es : List (Int × Int)} (h : evE es = 0) : es.length ≤ 30 ∧ es.all okEv = true := by
  unfold evE at h
  by_cases h1 : 30 < es.length
  · rw [if_pos h1] at h; cases h
  · rw [if_neg h1] at h
    cases h2 : es.all okEv
    · rw [h2] at h; cases h
    · exact ⟨by omega, rfl⟩
theorem evE_mk {es : List (Int × Int)} (h : es.length ≤ 30) (k : es.all okEv = true) : evE es = 0 := by
  unfold evE; rw [if_neg (by omega), k]; rfl
theorem getE_ok {es : List (Int × Int)} (h : es.all okEv = true) (i : Nat) (hi : i < es.length) : okEv (es.getD i (0, 0)) = true := by
  rw [List.all_eq_true] at h
  apply h
  rw [List.getD_eq_getElem?_getD, List.getElem?_eq_getElem hi]; exact List.getElem_mem hi
theorem swap_ok {es : List (Int × Int)} (h : evE es = 0) (i : Nat) (hi : i + 1 < es.length) : evE (swapE es i) = 0 := by
  obtain ⟨h1, h2⟩ := evE_mem h
  apply evE_mk (by rw [swapE_len]; exact h1)
  rw [swap2 es i hi]
  rw [split2 es i hi] at h2
  simp only [List.all_append, List.all_cons, Bool.and_eq_true] at h2 ⊢
  exact ⟨h2.1, h2.2.2.1, h2.2.1, h2.2.2.2⟩
theorem swap_other {es : List (Int × Int)} (h : evE es = 0) (i : Nat) (hi : i + 1 < es.length) (hne : (es.getD i (0, 0)).1 ≠ (es.getD (i + 1) (0, 0)).1) : evBank (swapE es i) = evBank es := by
  obtain ⟨h1, h2⟩ := evE_mem h
  have k1 := getE_ok h2 i (by omega)
  have k2 := getE_ok h2 (i + 1) hi
  unfold okEv at k1 k2
  rw [Bool.and_eq_true] at k1 k2
  have r1 := okReg_yes k1.1
  have r2 := okReg_yes k2.1
  rw [swap2 es i hi]
  conv => rhs; rw [split2 es i hi]
  unfold evBank
  rw [List.foldl_append, List.foldl_append, List.foldl_cons, List.foldl_cons, List.foldl_cons, List.foldl_cons, step_comm _ _ _ (by omega)]
theorem swap_same {es : List (Int × Int)} (h : evE es = 0) (i : Nat) (hi : i + 1 < es.length) (he : (es.getD i (0, 0)).1 = (es.getD (i + 1) (0, 0)).1) :
    evBank (swapE es i) = evBank es ↔ (es.getD i (0, 0)).2 = (es.getD (i + 1) (0, 0)).2 := by
  obtain ⟨h1, h2⟩ := evE_mem h
  have k1 := getE_ok h2 i (by omega)
  have k2 := getE_ok h2 (i + 1) hi
  have k3 : (es.drop (i + 2)).all okEv = true := by
    have := h2
    rw [split2 es i hi] at this
    simp only [List.all_append, List.all_cons, Bool.and_eq_true] at this
    exact this.2.2.2
  obtain ⟨⟨r, m⟩, hx⟩ : ∃ x, es.getD i (0, 0) = x := ⟨_, rfl⟩
  obtain ⟨⟨r', n⟩, hy⟩ : ∃ y, es.getD (i + 1) (0, 0) = y := ⟨_, rfl⟩
  rw [swap2 es i hi]
  conv => lhs; rhs; rw [split2 es i hi]
  rw [hx] at k1 he ⊢
  rw [hy] at k2 he ⊢
  simp only at he
  subst he
  unfold okEv at k1 k2
  rw [Bool.and_eq_true] at k1 k2
  have r1 := okReg_yes k1.1
  unfold evBank
  rw [List.foldl_append, List.foldl_append, List.foldl_cons, List.foldl_cons, List.foldl_cons, List.foldl_cons]
  generalize hP : (es.take i).foldl evStep [0, 0, 0, 0, 0, 0, 0, 0] = P
  have hl : P.length = 8 := by rw [← hP]; exact evFold_len _ _
  have hk : P.all okM = true := by rw [← hP]; exact evFold_ok _ _ (by decide)
  have hs := step_same P r m n (by rw [hl]; omega) k1.2 k2.2
  constructor
  · intro h
    have := fold_inj _ (by rw [evStep_len, evStep_len]; exact hl) (by rw [evStep_len, evStep_len]; exact hl) (evStep_ok (evStep_ok hk)) (evStep_ok (evStep_ok hk)) k3 h
    exact hs.1 this.symm
  · intro h
    rw [hs.2 h]

/-- One more goes on from where fewer were. -/
theorem more_ok {es : List (Int × Int)} {e : Int × Int} (h : evE es = 0) (hw : evE (es ++ [e]) = 0) :
    extOk (repB es) e.1 e.2 = true ∧ repB (es ++ [e]) = extB (repB es) e.1 e.2 ∧ extE (repB es) e.1 e.2 = 0 := by
  have k := (evE_mem hw).2
  rw [List.all_append, Bool.and_eq_true] at k
  have ke : okEv e = true := by have := k.2; simp only [List.all_cons, List.all_nil, Bool.and_true] at this; exact this
  unfold okEv at ke
  rw [Bool.and_eq_true] at ke
  have hr : repB es = evBank es := by unfold repB; rw [if_pos h]
  have ho : extOk (repB es) e.1 e.2 = true := by unfold extOk; rw [hr, evBank_ok, ke.1, ke.2]; rfl
  refine ⟨ho, ?_, by unfold extE; rw [ho]; rfl⟩
  unfold extB
  rw [ho, if_pos rfl, hr]
  unfold repB
  rw [if_pos hw, evBank_snoc]; rfl
end Go.Proofs.Ytfklbifgjpocnaa
