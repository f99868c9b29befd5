/- Records of one name, raised one by one. -/
import Derived.Test.YtkipjloapdolbaaGreatDoorRows
import Derived.Test.YtkipjloapdolbaaGreatDoorNum
import Derived.Test.YtkipjloapdolbaaGreatDoorBase
import Derived.Test.YtkipjloapdolbaaGreatDoorImg
import Derived.Test.YtkipjloapdolbaaGreatDoorCntP
import Derived.Test.YtkipjloapdolbaaGreatDoorLogP
import Derived.Test.YtkipjloapdolbaaGreatDoorLogA
import Derived.Test.YtkipjloapdolbaaGreatDoorLogR
import Derived.Test.YtkipjloapdolbaaGreatDoorLogW
import Derived.Test.YtkipjloapdolbaaGreatDoorLogC
import Derived.Test.YtkipjloapdolbaaGreatDoorLogQ
namespace Go.Proofs.YtkipjloapdolbaaGreatDoor
open Go.RowKit
set_option maxRecDepth 100000
set_option linter.unusedVariables false
set_option linter.unusedSimpArgs false

abbrev osB : ByteArray := { data := #[111, 115] }
/-- The records of a name that was raised one by one. -/
def osR (n : Nat) : List Rec := (List.range n).map (fun (j : Nat) => (osB, (j : Int) + 1))
theorem osR_len (n : Nat) : (osR n).length = n := by simp [osR]
theorem osR_succ (n : Nat) : osR (n + 1) = osR n ++ [(osB, (n : Int) + 1)] := by simp [osR, List.range_succ]
theorem osR_take (n k : Nat) : (osR n).take k = osR (min k n) := by simp [osR, ← List.map_take, List.take_range]
def osC (n : Nat) : List Cnt := if n = 0 then [] else [(osB, (n : Int))]
theorem osOk : okName osB = true := by decide
theorem osC_of (n : Nat) : ofL (osC n) osB.data.toList = n := by
  unfold osC
  split
  · subst n; rfl
  · show (if osB.data.toList = osB.data.toList then _ else _) = _
    rw [if_pos rfl]
theorem osC_raise (n : Nat) (v : Int) (h0 : (n : Int) < v) (h1 : v ≤ 1000) : raiseB (osC n) osB v = true ∧ raiseL (osC n) osB v = [(osB, v)] := by
  have hx : ¬ (v < 0 ∨ 1000 < v) := by omega
  have hn : ¬ v ≤ (n : Int) := by omega
  have ho := osC_of n
  have e : ∀ x : Int, hasL [(osB, x)] osB.data.toList = true := fun x => rfl
  have e2 : ∀ x : Int, setL [(osB, x)] osB.data.toList v = [(osB, v)] := fun x => by
    show (if osB.data.toList = osB.data.toList then (osB, v) :: [] else _) = _
    rw [if_pos rfl]
  constructor
  · unfold raiseB
    rw [osOk, if_pos rfl, if_neg hx, ho, if_neg hn]
    unfold osC
    by_cases h : n = 0
    · rw [if_pos h]; rfl
    · rw [if_neg h, e, if_pos rfl]
  · unfold raiseL
    rw [osOk, if_pos rfl, if_neg hx, ho, if_neg hn]
    unfold osC
    by_cases h : n = 0
    · rw [if_pos h]; rfl
    · rw [if_neg h, e, if_pos rfl, e2]
theorem osR_raised : ∀ n : Nat, n ≤ 900 → raisedL (osR n) = osC n
  | 0, _ => rfl
  | n + 1, h => by
    rw [osR_succ, raisedL_snoc, osR_raised n (by omega)]
    have := (osC_raise n ((n : Int) + 1) (by omega) (by omega)).2
    rw [this]
    unfold osC
    rw [if_neg (by omega)]
    rfl
/-- The log of the first lines: a raise, kept; another one, lost. -/
def k1 : Lg := (raiseOut lg0 osB 5).2
def k2 : Lg := (syncOut k1).2
def k3 : Lg := (raiseOut k2 osB 9).2
theorem k1_is : raiseOut lg0 osB 5 = ((true, 0), { recs := [(osB, 5)], half := [], safe := 0, left := -1, st := false }) := by
  have h := (osC_raise 0 5 (by decide) (by decide)).1
  unfold raiseOut
  rw [show lg0.st = false from rfl, if_neg (by decide), show raisedL lg0.recs = osC 0 from rfl, h, if_pos rfl, show lg0.recs = [] from rfl, if_neg (by decide), show lg0.left = -1 from rfl, if_neg (by decide)]
  rfl
theorem k2_is : syncOut k1 = (0, { recs := [(osB, 5)], half := [], safe := flatN [(osB, 5)], left := -1, st := false }) := by
  unfold k1
  rw [k1_is]
  unfold syncOut
  simp only
  rw [if_neg (by decide), if_neg (by decide)]
  rfl
theorem raised5 : raisedL [(osB, 5)] = osC 5 := (osC_raise 0 5 (by decide) (by decide)).2
theorem k3_is : raiseOut k2 osB 9 = ((true, 0), { recs := [(osB, 5), (osB, 9)], half := [], safe := flatN [(osB, 5)], left := -1, st := false }) := by
  have h := (osC_raise 5 9 (by decide) (by decide)).1
  unfold k2
  rw [k2_is]
  unfold raiseOut
  simp only
  rw [if_neg (by decide), raised5, h, if_pos rfl, if_neg (by decide), if_neg (by decide)]
  rfl
theorem k4_is : (crashOut k3 0).recs = [(osB, 5)] ∧ (crashOut k3 0).half = [] ∧ (crashOut k3 0).safe = flatN [(osB, 5)] := by
  have hk : k3 = { recs := [(osB, 5), (osB, 9)], half := [], safe := flatN [(osB, 5)], left := -1, st := false } := by unfold k3; rw [k3_is]
  have hf : flatN [(osB, 5), (osB, 9)] = flatN [(osB, 5)] + (recB (osB, 9)).size := by
    rw [show [(osB, (5 : Int)), (osB, 9)] = [(osB, 5)] ++ [(osB, 9)] from rfl, flatN_app, flatN_cons (osB, 9)]; rfl
  have hp := recB_pos (osB, 9)
  have hh : highOf k3 0 = (flatN [(osB, 5)] : Int) := by
    unfold highOf
    rw [hk]
    simp only
    have e := bytesB_len [(osB, 5), (osB, 9)]
    omega
  have hw : wholeN k3.recs (highOf k3 0).toNat = 1 := by
    rw [hh, hk]
    simp only [Int.toNat_natCast]
    have h1 := (wholeN_iff [(osB, 5), (osB, 9)] (flatN [(osB, 5)]) 1 (by decide)).1 (Nat.le_refl _)
    have h2 := wholeN_iff [(osB, 5), (osB, 9)] (flatN [(osB, 5)]) 2 (by decide)
    have h3 : ¬ 2 ≤ wholeN [(osB, 5), (osB, 9)] (flatN [(osB, 5)]) := fun h => by
      have := h2.2 h
      rw [show [(osB, (5 : Int)), (osB, 9)].take 2 = [(osB, 5), (osB, 9)] from rfl, hf] at this
      omega
    omega
  have hr : k3.recs.take 1 = [(osB, 5)] := by rw [hk]; rfl
  unfold crashOut
  rw [hw, hr]
  exact ⟨rfl, rfl, rfl⟩

end Go.Proofs.YtkipjloapdolbaaGreatDoor
