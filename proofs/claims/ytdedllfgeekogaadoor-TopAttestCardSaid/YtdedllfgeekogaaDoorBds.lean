/- Small numbers are numbers: the faults of each kind. -/
import Derived.Test.YtdedllfgeekogaaDoorNum
import Derived.Test.YtdedllfgeekogaaDoorBase
import Derived.Test.YtdedllfgeekogaaDoorCert
namespace Go.Proofs.YtdedllfgeekogaaDoor

theorem i64_small {k : Int} (h : -1 ≤ k) (h' : k ≤ 2000000) : I64 k := ⟨by omega, by omega⟩
theorem ofE_bd (l : List UInt8) : I64 (ofE l) := by unfold ofE; split <;> exact i64_small (by decide) (by decide)
theorem twoE_bd (a b : Int) : I64 (twoE a b) := by unfold twoE; split <;> exact i64_small (by decide) (by decide)
theorem allE_bd (l : List Int) : I64 (allE l) := by unfold allE; split; exact i64_small (by decide) (by decide); split <;> exact i64_small (by decide) (by decide)
theorem pubE_bd (x : Int) : I64 (pubE x) := by unfold pubE; split <;> exact i64_small (by decide) (by decide)
theorem sgE_bd (x k m : Int) : I64 (sgE x k m) := by unfold sgE; split <;> exact i64_small (by decide) (by decide)
theorem chkE_bd (q m p a : Int) : I64 (chkE q m p a) := by unfold chkE; split <;> exact i64_small (by decide) (by decide)
theorem rightE_bd (q m p a : Int) : I64 (rightE q m p a) := by
  unfold rightE; split
  · split <;> exact i64_small (by decide) (by decide)
  · exact i64_small (by decide) (by decide)
theorem bankE_bd (b : List Int) : I64 (bankE b) := by unfold bankE; split <;> exact i64_small (by decide) (by decide)
theorem digE_bd (b : List Int) (m : Int) : I64 (digE b m) := by unfold digE; split <;> exact i64_small (by decide) (by decide)
theorem extE_bd (b : List Int) (i m : Int) : I64 (extE b i m) := by unfold extE; split <;> exact i64_small (by decide) (by decide)
theorem sameE_bd (a b : List Int) (m : Int) : I64 (sameE a b m) := by unfold sameE; split <;> exact i64_small (by decide) (by decide)
theorem evE_bd (es : List (Int × Int)) : I64 (evE es) := by
  unfold evE; split
  · exact i64_small (by decide) (by decide)
  · split <;> exact i64_small (by decide) (by decide)
theorem ruleGo_bd : ∀ (rs prev : List (Int × List Int)), I64 (ruleGo prev rs)
  | [], _ => (i64_small (by decide) (by decide) : I64 0)
  | r :: rs, prev => by
    unfold ruleGo
    split
    · split
      · exact i64_small (by decide) (by decide)
      · split
        · split
          · exact i64_small (by decide) (by decide)
          · exact ruleGo_bd rs _
        · exact i64_small (by decide) (by decide)
    · exact i64_small (by decide) (by decide)
theorem rulesE_bd (rs : List (Int × List Int)) : I64 (rulesE rs) := by
  unfold rulesE; split
  · exact i64_small (by decide) (by decide)
  · exact ruleGo_bd _ _
theorem fitsE_bd (rs : List (Int × List Int)) (b : List Int) : I64 (fitsE rs b) := by
  unfold fitsE; split
  · exact bankE_bd _
  · exact rulesE_bd _
theorem clE_bd (s m : Int) (b : List Int) : I64 (clE s m b) := by
  unfold clE; split
  · exact digE_bd _ _
  · exact i64_small (by decide) (by decide)
theorem opE_bd (m l n : Int) (b : List Int) : I64 (opE m l n b) := by
  unfold opE; split
  · split
    · split <;> exact i64_small (by decide) (by decide)
    · exact digE_bd _ _
  · exact i64_small (by decide) (by decide)
theorem cmE_bd (x k q : Int) : I64 (cmE x k q) := by
  unfold cmE; split
  · exact sgE_bd _ _ _
  · exact i64_small (by decide) (by decide)
theorem lastGo_bd : ∀ (cs : List (Int × Int × Int)) (root : Int), I64 (lastGo root cs).2
  | [], _ => (i64_small (by decide) (by decide) : I64 0)
  | (k, p, a) :: cs, root => by
    unfold lastGo
    split
    · split
      · exact lastGo_bd cs k
      · exact rightE_bd _ _ _ _
    · exact i64_small (by decide) (by decide)
theorem certLast_bd (root : Int) (cs : List (Int × Int × Int)) : I64 (certLast root cs).2 := by
  unfold certLast; split
  · exact i64_small (by decide) (by decide)
  · split
    · exact lastGo_bd _ _
    · exact i64_small (by decide) (by decide)
theorem sg_ways (x k m : Int) : (sgE x k m = 0 ∧ sgP x k m = pwI 64 k ∧ sgA x k m = sealA x k m ∧ okSecret x = true ∧ okSecret k = true ∧ okM m = true) ∨ (sgE x k m = 1 ∧ sgP x k m = 0 ∧ sgA x k m = 0) := by
  cases h : okSign x k m
  · exact Or.inr ⟨by simp [sgE, h], by simp [sgP, h], by simp [sgA, h]⟩
  · have h2 := h
    unfold okSign at h2
    simp only [Bool.and_eq_true] at h2
    exact Or.inl ⟨by simp [sgE, h], by simp [sgP, h], by simp [sgA, h], h2.1.1, h2.1.2, h2.2⟩
end Go.Proofs.YtdedllfgeekogaaDoor
