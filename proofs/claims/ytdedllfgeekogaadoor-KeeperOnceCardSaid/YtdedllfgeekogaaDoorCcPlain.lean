/- Plain: a chain of certs, cut anywhere, ends where the whole ends; a chain that is made is right. No program in sight. -/
import Derived.Test.YtdedllfgeekogaaDoorNum
import Derived.Test.YtdedllfgeekogaaDoorSeal
namespace Go.Proofs.YtdedllfgeekogaaDoor

theorem lastGo_cons (root k p a : Int) (r : List (Int × Int × Int)) : lastGo root ((k, p, a) :: r) = if okIn k then (if rightE root k p a = 0 then lastGo k r else (0, rightE root k p a)) else (0, 1) := rfl
theorem lastGo_append (cs ds : List (Int × Int × Int)) : ∀ root, lastGo root (cs ++ ds) = if (lastGo root cs).2 = 0 then lastGo (lastGo root cs).1 ds else (0, (lastGo root cs).2) := by
  induction cs with
  | nil => intro root; rfl
  | cons c cs ih =>
    intro root
    obtain ⟨k, p, a⟩ := c
    rw [List.cons_append, lastGo_cons, lastGo_cons]
    by_cases h1 : okIn k = true
    · rw [if_pos h1, if_pos h1]
      by_cases h2 : rightE root k p a = 0
      · rw [if_pos h2, if_pos h2]; exact ih k
      · rw [if_neg h2, if_neg h2]; rw [if_neg h2]
    · rw [if_neg h1, if_neg h1]; rfl

theorem lastGo_in (cs : List (Int × Int × Int)) : ∀ root, okIn root = true → (lastGo root cs).2 = 0 → okIn (lastGo root cs).1 = true := by
  induction cs with
  | nil => intro root h _; exact h
  | cons c cs ih =>
    intro root h h2
    obtain ⟨k, p, a⟩ := c
    rw [lastGo_cons] at h2 ⊢
    by_cases h1 : okIn k = true
    · rw [if_pos h1] at h2 ⊢
      by_cases h3 : rightE root k p a = 0
      · rw [if_pos h3] at h2 ⊢; exact ih k h1 h2
      · rw [if_neg h3] at h2; exact absurd h2 h3
    · rw [if_neg h1] at h2; exact absurd h2 (by decide)

theorem chain_cut {root : Int} {l : List (Int × Int × Int)} (h : (certLast root l).2 = 0) (c : Nat) :
    (certLast root (l.take c)).2 = 0 ∧ (certLast (certLast root (l.take c)).1 (l.drop c)).2 = 0 ∧ (certLast (certLast root (l.take c)).1 (l.drop c)).1 = (certLast root l).1 := by
  unfold certLast at h
  by_cases h1 : 12 < l.length
  · rw [if_pos h1] at h; exact absurd h (by decide)
  · rw [if_neg h1] at h
    by_cases h2 : okIn root = true
    · rw [if_pos h2] at h
      have e := lastGo_append (l.take c) (l.drop c) root
      rw [List.take_append_drop] at e
      have t1 : ¬ 12 < (l.take c).length := by rw [List.length_take]; omega
      have t2 : ¬ 12 < (l.drop c).length := by rw [List.length_drop]; omega
      have hz : (lastGo root (l.take c)).2 = 0 := by
        by_cases hz : (lastGo root (l.take c)).2 = 0
        · exact hz
        · rw [if_neg hz] at e; rw [e] at h; exact h
      rw [if_pos hz] at e
      have hi := lastGo_in (l.take c) root h2 hz
      have e1 : certLast root (l.take c) = lastGo root (l.take c) := by unfold certLast; rw [if_neg t1, if_pos h2]
      have e2 : certLast (lastGo root (l.take c)).1 (l.drop c) = lastGo root l := by unfold certLast; rw [if_neg t2, if_pos hi, e]
      have e3 : certLast root l = lastGo root l := by unfold certLast; rw [if_neg h1, if_pos h2]
      rw [e1, e2, e3]
      exact ⟨hz, h, rfl⟩
    · rw [if_neg h2] at h; exact absurd h (by decide)

/-- A cert that is made goes on from its maker's key. -/
theorem made_right {x k q : Int} (hx : okSecret x = true) (h : sgE x k q = 0) : rightE (pwI 64 x) q (sgP x k q) (sgA x k q) = 0 := by
  have hs : okSign x k q = true := by
    unfold sgE at h
    cases hh : okSign x k q
    · rw [hh] at h; cases h
    · rfl
  have h3 := hs
  unfold okSign at h3
  simp only [Bool.and_eq_true] at h3
  obtain ⟨⟨_, hk⟩, hm⟩ := h3
  have x1 := okSecret_yes hx
  have k1 := okSecret_yes hk
  have a1 := sealA_bd x k q
  have e1 : sgP x k q = pwI 64 k := by unfold sgP; rw [hs]; rfl
  have e2 : sgA x k q = sealA x k q := by unfold sgA; rw [hs]; rfl
  have o : okSeal (pwI 64 x) q (pwI 64 k) (sealA x k q) = true := by
    unfold okSeal
    rw [key_in (by omega) (by omega), key_in (by omega) (by omega), hm]
    exact decide_eq_true ⟨a1.1, a1.2⟩
  unfold rightE
  rw [e1, e2, o, seal_right x k q hx hk]; rfl
theorem lastGo_snoc (root k p a : Int) (cs : List (Int × Int × Int)) (q : Int) (h : lastGo root cs = (q, 0)) (hk : okIn k = true) (hr : rightE q k p a = 0) : lastGo root (cs ++ [(k, p, a)]) = (k, 0) := by
  rw [lastGo_append, h, if_pos rfl, lastGo_cons, if_pos hk, if_pos hr]; rfl

end Go.Proofs.YtdedllfgeekogaaDoor
