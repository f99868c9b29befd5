/- boot, in plain words: what is wrong with a row of images, how many start, what they come to. -/
import Derived.Test.YtdedllfgeekogaaDoorRows
import Derived.Test.YtdedllfgeekogaaDoorNum
import Derived.Test.YtdedllfgeekogaaDoorOpI
import Derived.Test.YtdedllfgeekogaaDoorImg
import Derived.Test.YtdedllfgeekogaaDoorImg2
import Derived.Test.YtdedllfgeekogaaDoorSign
import Derived.Test.YtdedllfgeekogaaDoorBank3
import Derived.Test.YtdedllfgeekogaaDoorBds
namespace Go.Proofs.YtdedllfgeekogaaDoor
open Go.RowKit
set_option maxRecDepth 100000

def sgX (z : Sgn) : Int := imgE z.1 z.2.1 z.2.2.1
def sgW (z : Sgn) : Int := imgM z.1 z.2.1 z.2.2.1
def sgC (q : Int) (z : Sgn) : Int := signE q z.1 z.2.1 z.2.2.1 z.2.2.2.1 z.2.2.2.2
def firstE : List Sgn → Int
  | [] => 0
  | z :: r => if sgX z = 0 then firstE r else sgX z
def bootE (q : Int) (ss : List Sgn) : Int := if okIn q then (if 8 < ss.length then 4 else firstE ss) else 1
theorem firstE_step {ss : List Sgn} {k : Nat} (h : k < ss.length) (h0 : sgX (ss.getD k noSgn) = 0) : firstE (ss.drop k) = firstE (ss.drop (k + 1)) := by
  rw [drop_cons ss noSgn k h]
  show (if sgX (ss.getD k noSgn) = 0 then _ else _) = _
  rw [if_pos h0]
theorem firstE_bad {ss : List Sgn} {k : Nat} (h : k < ss.length) (h0 : sgX (ss.getD k noSgn) ≠ 0) : firstE (ss.drop k) = sgX (ss.getD k noSgn) := by
  rw [drop_cons ss noSgn k h]
  show (if sgX (ss.getD k noSgn) = 0 then _ else _) = _
  rw [if_neg h0]
theorem firstE_end {ss : List Sgn} {k : Nat} (h : ss.length ≤ k) : firstE (ss.drop k) = 0 := by rw [List.drop_eq_nil_of_le h]; rfl
theorem firstE_all : ∀ {ss : List Sgn}, firstE ss = 0 → ∀ i, i < ss.length → sgX (ss.getD i noSgn) = 0
  | z :: r, h, i, hi => by
    have h2 : (if sgX z = 0 then firstE r else sgX z) = 0 := h
    by_cases hz : sgX z = 0
    · rw [if_pos hz] at h2
      cases i with
      | zero => exact hz
      | succ i => exact firstE_all h2 i (by simpa using hi)
    · rw [if_neg hz] at h2; exact absurd h2 hz
theorem firstE_bd : ∀ (ss : List Sgn), I64 (firstE ss)
  | [] => (i64_small (by decide) (by decide) : I64 0)
  | z :: r => by
    unfold firstE
    split
    · exact firstE_bd r
    · exact imgE_bd _ _ _
theorem bootE_bd (q : Int) (ss : List Sgn) : I64 (bootE q ss) := by
  unfold bootE
  split
  · split
    · exact i64_small (by decide) (by decide)
    · exact firstE_bd ss
  · exact i64_small (by decide) (by decide)
theorem bootE_ok {q : Int} {ss : List Sgn} (h : bootE q ss = 0) : okIn q = true ∧ ss.length ≤ 8 ∧ ∀ i, i < ss.length → sgX (ss.getD i noSgn) = 0 := by
  unfold bootE at h
  split at h
  · rename_i hq
    split at h
    · cases h
    · exact ⟨hq, by omega, firstE_all h⟩
  · cases h

/-- What is in register i when k were measured. -/
def cellK (ss : List Sgn) (k i : Nat) : Int := if i < k then pairM 0 (sgW (ss.getD i noSgn)) else 0
def bankK (ss : List Sgn) (k : Nat) : List Int := [cellK ss k 0, cellK ss k 1, cellK ss k 2, cellK ss k 3, cellK ss k 4, cellK ss k 5, cellK ss k 6, cellK ss k 7]
theorem cellK_ok (ss : List Sgn) (k i : Nat) : okM (cellK ss k i) = true := by
  unfold cellK; split
  · exact pairM_ok _ _
  · rfl
theorem bankK_ok (ss : List Sgn) (k : Nat) : (bankK ss k).all okM = true := by simp [bankK, cellK_ok]
theorem bankK_zero (ss : List Sgn) : bankK ss 0 = [0, 0, 0, 0, 0, 0, 0, 0] := rfl
theorem cellK_next {ss : List Sgn} {k i : Nat} (h : i ≠ k) : cellK ss (k + 1) i = cellK ss k i := by
  unfold cellK
  by_cases h1 : i < k
  · rw [if_pos h1, if_pos (by omega)]
  · rw [if_neg h1, if_neg (by omega)]
theorem cellK_this (ss : List Sgn) (k : Nat) : cellK ss (k + 1) k = pairM 0 (sgW (ss.getD k noSgn)) := by unfold cellK; rw [if_pos (by omega)]
theorem cellK_off (ss : List Sgn) (k : Nat) : cellK ss k k = 0 := by unfold cellK; rw [if_neg (by omega)]
theorem bankK_step {ss : List Sgn} {k : Nat} (h : k < 8) : (bankK ss k).set k (pairM ((bankK ss k).getD k 0) (sgW (ss.getD k noSgn))) = bankK ss (k + 1) := by
  have e : k = 0 ∨ k = 1 ∨ k = 2 ∨ k = 3 ∨ k = 4 ∨ k = 5 ∨ k = 6 ∨ k = 7 := by omega
  rcases e with rfl | rfl | rfl | rfl | rfl | rfl | rfl | rfl
  all_goals
    simp [bankK, cellK]
theorem bankK_set {ss : List Sgn} {k : Nat} (h : k < 8) : (bankK ss k).set k (pairM 0 (sgW (ss.getD k noSgn))) = bankK ss (k + 1) := by
  have e : k = 0 ∨ k = 1 ∨ k = 2 ∨ k = 3 ∨ k = 4 ∨ k = 5 ∨ k = 6 ∨ k = 7 := by omega
  rcases e with rfl | rfl | rfl | rfl | rfl | rfl | rfl | rfl
  all_goals
    simp [bankK, cellK]
theorem sgW_ok (z : Sgn) : okM (sgW z) = true := imgM_ok _ _ _
theorem bankK_ext {ss : List Sgn} {k : Nat} (h : k < 8) : extB (bankK ss k) (k : Int) (sgW (ss.getD k noSgn)) = bankK ss (k + 1) ∧ extE (bankK ss k) (k : Int) (sgW (ss.getD k noSgn)) = 0 := by
  have hr : okReg (k : Int) = true := decide_eq_true (by omega)
  have := ext_yes (b := bankK ss k) (i := (k : Int)) (m := sgW (ss.getD k noSgn)) (by unfold extOk; rw [bankK_ok, hr, sgW_ok]; rfl)
  refine ⟨?_, this.2⟩
  rw [this.1]
  exact bankK_step h
def evK (ss : List Sgn) (k : Nat) : List (Int × Int) := (List.range k).map fun (i : Nat) => ((i : Int), sgW (ss.getD i noSgn))
theorem evK_len (ss : List Sgn) (k : Nat) : (evK ss k).length = k := by simp [evK]
theorem evK_step (ss : List Sgn) (k : Nat) : evK ss (k + 1) = evK ss k ++ [((k : Int), sgW (ss.getD k noSgn))] := by
  unfold evK; rw [List.range_succ, List.map_append]; rfl
/-- m were measured, n of them started. -/
def BootIs (q : Int) (ss : List Sgn) (m n : Nat) : Prop :=
  (n ≤ ss.length ∧ ∀ i, i < n → sgC q (ss.getD i noSgn) = 0) ∧ (n = ss.length ∧ m = n ∨ n < ss.length ∧ m = n + 1 ∧ sgC q (ss.getD n noSgn) ≠ 0)
theorem BootIs.one {q : Int} {ss : List Sgn} {m n m' n' : Nat} (h : BootIs q ss m n) (k : BootIs q ss m' n') : m = m' ∧ n = n' := by
  obtain ⟨⟨h1, h2⟩, h3⟩ := h
  obtain ⟨⟨k1, k2⟩, k3⟩ := k
  have e : n = n' := by
    rcases Nat.lt_trichotomy n n' with hlt | he | hgt
    · exfalso
      rcases h3 with ⟨h3, _⟩ | ⟨_, _, h3⟩
      · omega
      · exact h3 (k2 n hlt)
    · exact he
    · exfalso
      rcases k3 with ⟨k3, _⟩ | ⟨_, _, k3⟩
      · omega
      · exact k3 (h2 n' hgt)
  subst e
  rcases h3 with ⟨h3, h4⟩ | ⟨h3, h4, _⟩ <;> rcases k3 with ⟨k3, k4⟩ | ⟨k3, k4, _⟩ <;> omega
theorem BootIs.le {q : Int} {ss : List Sgn} {m n : Nat} (h : BootIs q ss m n) : n ≤ ss.length ∧ m ≤ ss.length ∧ n ≤ m ∧ m ≤ n + 1 := by
  obtain ⟨⟨h1, h2⟩, h3⟩ := h
  rcases h3 with ⟨h3, h4⟩ | ⟨h3, h4, _⟩ <;> omega

end Go.Proofs.YtdedllfgeekogaaDoor
