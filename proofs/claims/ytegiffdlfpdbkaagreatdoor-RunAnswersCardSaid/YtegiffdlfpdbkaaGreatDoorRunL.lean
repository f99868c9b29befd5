/- The lines of a session, in plain words: cut at each end of line; as strings.Lines gives them; all answers. -/
import Derived.Test.YtegiffdlfpdbkaaGreatDoorRows
import Derived.Test.YtegiffdlfpdbkaaGreatDoorNum
import Derived.Test.YtegiffdlfpdbkaaGreatDoorBase
import Derived.Test.YtegiffdlfpdbkaaGreatDoorWordsA
import Derived.Test.YtegiffdlfpdbkaaGreatDoorLines
import Derived.Test.YtegiffdlfpdbkaaGreatDoorLinesG
import Derived.Test.YtegiffdlfpdbkaaGreatDoorParse
import Derived.Test.YtegiffdlfpdbkaaGreatDoorRefCut
import Derived.Test.YtegiffdlfpdbkaaGreatDoorCutW
import Derived.Test.YtegiffdlfpdbkaaGreatDoorRunP
namespace Go.Proofs.YtegiffdlfpdbkaaGreatDoor
open Go.RowKit
set_option maxRecDepth 100000
set_option linter.unusedVariables false
set_option linter.unusedSimpArgs false

/-- The pieces that strings.Lines gives of a text cut at each end of line. -/
def pieces : List ByteArray → List ByteArray
  | [] => []
  | [x] => if x.size = 0 then [] else [x]
  | x :: y :: r => (x ++ tNl) :: pieces (y :: r)
/-- The lines: an empty last one is none. -/
def linesD : List ByteArray → List ByteArray
  | [] => []
  | [x] => if x.size = 0 then [] else [x]
  | x :: y :: r => x :: linesD (y :: r)
def joinN : List (List UInt8) → List UInt8
  | [] => []
  | [x] => x
  | x :: y :: r => x ++ 10 :: joinN (y :: r)
theorem cutA_ne (c : UInt8) : ∀ (l cur : List UInt8), ∃ x r, cutA c cur l = x :: r
  | [], cur => ⟨cur, [], rfl⟩
  | x :: r, cur => by
    unfold cutA
    split
    · exact ⟨_, _, rfl⟩
    · exact cutA_ne c r _
theorem cutA_join : ∀ (l cur : List UInt8), joinN (cutA 10 cur l) = cur ++ l
  | [], cur => by rw [List.append_nil]; rfl
  | x :: r, cur => by
    unfold cutA
    by_cases h : x = 10
    · subst h
      rw [if_pos rfl]
      obtain ⟨y, q, e⟩ := cutA_ne 10 r []
      have ih := cutA_join r []
      rw [e] at ih ⊢
      show cur ++ 10 :: joinN (y :: q) = _
      rw [ih]; rfl
    · rw [if_neg h, cutA_join r (cur ++ [x]), List.append_assoc]; rfl
theorem cutA_clean : ∀ (l cur : List UInt8), (∀ c ∈ cur, c ≠ 10) → ∀ x ∈ cutA 10 cur l, ∀ c ∈ x, c ≠ 10
  | [], cur, h, x, hx => by
    have : x = cur := by simpa [cutA] using hx
    subst this; exact h
  | y :: r, cur, h, x, hx => by
    unfold cutA at hx
    by_cases hy : y = 10
    · rw [if_pos hy] at hx
      rcases List.mem_cons.1 hx with rfl | hx
      · exact h
      · exact cutA_clean r [] (by simp) x hx
    · rw [if_neg hy] at hx
      exact cutA_clean r (cur ++ [y]) (fun c hc => by
        rcases List.mem_append.1 hc with h1 | h1
        · exact h c h1
        · rw [List.mem_singleton.1 h1]; exact hy) x hx
theorem pieces_flat : ∀ (L : List ByteArray), flatB (pieces L) = joinN (L.map (·.data.toList))
  | [] => rfl
  | [x] => by
    unfold pieces
    by_cases h : x.size = 0
    · rw [if_pos h]
      have : x.data.toList = [] := List.eq_nil_of_length_eq_zero (by rw [size_list]; exact h)
      show [] = x.data.toList
      rw [this]
    · rw [if_neg h, flatB_cons]
      show x.data.toList ++ flatB [] = x.data.toList
      simp [flatB]
  | x :: y :: r => by
    show flatB ((x ++ tNl) :: pieces (y :: r)) = x.data.toList ++ 10 :: joinN ((y :: r).map (·.data.toList))
    rw [flatB_cons, pieces_flat (y :: r)]
    have e : (x ++ tNl).data.toList = x.data.toList ++ [10] := by simp
    rw [e, List.append_assoc]; rfl
def Clean (L : List ByteArray) : Prop := ∀ x ∈ L, ∀ c ∈ x.data.toList, c ≠ 10
theorem pieces_lined : ∀ (L : List ByteArray), Clean L → Lined (pieces L)
  | [], _, pre, x, rest, h => by cases pre <;> simp [pieces] at h
  | [z], hc, pre, x, rest, h => by
    unfold pieces at h
    by_cases hz : z.size = 0
    · rw [if_pos hz] at h; cases pre <;> simp at h
    · rw [if_neg hz] at h
      rcases pre with _ | ⟨a, pre⟩
      · injection h with h1 h2
        subst h1 h2
        exact Or.inr ⟨rfl, by omega, hc z (by simp)⟩
      · injection h with _ h2
        cases pre <;> simp at h2
  | z :: y :: r, hc, pre, x, rest, h => by
    have h' : (z ++ tNl) :: pieces (y :: r) = pre ++ x :: rest := h
    rcases pre with _ | ⟨a, pre⟩
    · injection h' with h1 h2
      subst h1
      exact Or.inl ⟨z.data.toList, by simp, hc z (by simp)⟩
    · injection h' with _ h2
      exact pieces_lined (y :: r) (fun q hq => hc q (List.mem_cons_of_mem _ hq)) pre x rest h2
/-- A piece without its end. -/
def trimN (s : ByteArray) : ByteArray := ⟨(Lib.trimSuffix s.data.toList [10]).toArray⟩
theorem trim_nl (x : ByteArray) : trimN (x ++ tNl) = x := by
  refine bytes_ext ?_
  show Lib.trimSuffix (x ++ tNl).data.toList [10] = x.data.toList
  have e : (x ++ tNl).data.toList = x.data.toList ++ [10] := by simp
  rw [e]
  have h : Lib.hasSuffix (x.data.toList ++ [10]) [10] = true := by
    unfold Lib.hasSuffix
    exact List.isSuffixOf_iff_suffix.2 ⟨_, rfl⟩
  have e2 : (x.data.toList ++ [10]).length - ([10] : List UInt8).length = x.data.toList.length := by simp
  unfold Lib.trimSuffix
  rw [if_pos h, e2, List.take_left]
theorem trim_no {x : ByteArray} (h : ∀ c ∈ x.data.toList, c ≠ 10) : trimN x = x := by
  refine bytes_ext ?_
  show Lib.trimSuffix x.data.toList [10] = x.data.toList
  have hn : ¬ Lib.hasSuffix x.data.toList [10] = true := fun e => by
    unfold Lib.hasSuffix at e
    obtain ⟨q, hq⟩ := List.isSuffixOf_iff_suffix.1 e
    exact h 10 (by rw [← hq]; simp) rfl
  unfold Lib.trimSuffix
  rw [if_neg hn]
theorem pieces_trim : ∀ (L : List ByteArray), Clean L → (pieces L).map trimN = linesD L
  | [], _ => rfl
  | [x], hc => by
    unfold pieces linesD
    by_cases h : x.size = 0
    · rw [if_pos h]; rfl
    · rw [if_neg h, List.map_cons, trim_no (hc x (by simp))]; rfl
  | x :: y :: r, hc => by
    show trimN (x ++ tNl) :: (pieces (y :: r)).map trimN = x :: linesD (y :: r)
    rw [trim_nl, pieces_trim (y :: r) (fun q hq => hc q (List.mem_cons_of_mem _ hq))]
/-- The lines of a text. -/
def cutN (t : ByteArray) : List ByteArray := cutF t 10 t.size 0
def linesT (t : ByteArray) : List ByteArray := linesD (cutN t)
theorem cutN_data (t : ByteArray) : (cutN t).map (·.data.toList) = cutA 10 [] t.data.toList := by
  unfold cutN
  rw [cutF_data t 10 t.size 0 (Nat.le_refl _) (by omega), Nat.sub_self, Nat.sub_self, List.take_zero, List.drop_zero]
theorem cutN_clean (t : ByteArray) : Clean (cutN t) := fun x hx c hc => by
  have h := cutA_clean t.data.toList [] (by simp)
  rw [← cutN_data] at h
  exact h _ (List.mem_map.2 ⟨x, hx, rfl⟩) c hc
theorem pieces_text (t : ByteArray) : t.data.toList = flatB (pieces (cutN t)) := by
  rw [pieces_flat, cutN_data, cutA_join]; rfl
/-- The desk behind some lines, and what they were answered. -/
def stepR (p : Dsk × ByteArray) (s : ByteArray) : Dsk × ByteArray := ((lineR p.1 (wordsB s)).2, p.2 ++ ((lineR p.1 (wordsB s)).1 ++ tNl))
def runF (ls : List ByteArray) : Dsk × ByteArray := ls.foldl stepR (dsk0, tNil)
theorem runF_snoc (ls : List ByteArray) (s : ByteArray) : runF (ls ++ [s]) = stepR (runF ls) s := by unfold runF; rw [List.foldl_append]; rfl
theorem runF_ok : ∀ (ls : List ByteArray), DskOK (runF ls).1 := by
  have gen : ∀ (ls : List ByteArray) (p : Dsk × ByteArray), DskOK p.1 → DskOK (ls.foldl stepR p).1 := by
    intro ls
    induction ls with
    | nil => intro p h; exact h
    | cons s r ih => intro p h; exact ih _ (lineR_ok h _)
  intro ls
  exact gen ls _ dsk0_ok
/-- All that a text is answered. -/
def runT (t : ByteArray) : ByteArray := if 3000 < t.size then { data := #[116, 111, 111, 32, 108, 111, 110, 103, 10] } else (runF (linesT t)).2

end Go.Proofs.YtegiffdlfpdbkaaGreatDoor
