/- How long the words of a line and the lines of a text are, and how many. -/
import Derived.Test.YtegiffdlfpdbkaaGreatDoorRows
import Derived.Test.YtegiffdlfpdbkaaGreatDoorNum
import Derived.Test.YtegiffdlfpdbkaaGreatDoorBase
import Derived.Test.YtegiffdlfpdbkaaGreatDoorWordsA
import Derived.Test.YtegiffdlfpdbkaaGreatDoorNumP
import Derived.Test.YtegiffdlfpdbkaaGreatDoorParse
import Derived.Test.YtegiffdlfpdbkaaGreatDoorRefCut
import Derived.Test.YtegiffdlfpdbkaaGreatDoorRefNum
import Derived.Test.YtegiffdlfpdbkaaGreatDoorCutW
import Derived.Test.YtegiffdlfpdbkaaGreatDoorRunP
import Derived.Test.YtegiffdlfpdbkaaGreatDoorRunL
namespace Go.Proofs.YtegiffdlfpdbkaaGreatDoor
open Go.RowKit
set_option maxRecDepth 100000
set_option linter.unusedVariables false
set_option linter.unusedSimpArgs false

theorem wlen (s : ByteArray) : (wordsB s).length = Lib.countB s spB + 1 := Lib.splitB_all spB (by decide) 0 _ s rfl
theorem cutA_size (c : UInt8) : ∀ (l cur : List UInt8), ∀ x ∈ cutA c cur l, x.length ≤ cur.length + l.length
  | [], cur, x, h => by
    have : x = cur := by simpa [cutA] using h
    subst this; simp
  | y :: r, cur, x, h => by
    unfold cutA at h
    split at h
    · rcases List.mem_cons.1 h with rfl | h
      · simp
      · have := cutA_size c r [] x h
        simp at this ⊢
        omega
    · have := cutA_size c r (cur ++ [y]) x h
      simp at this ⊢
      omega
theorem cutA_len (c : UInt8) : ∀ (l cur : List UInt8), (cutA c cur l).length ≤ l.length + 1 ∧ 1 ≤ (cutA c cur l).length
  | [], cur => by simp [cutA]
  | y :: r, cur => by
    unfold cutA
    split
    · have := cutA_len c r []
      simp at this ⊢
      omega
    · have := cutA_len c r (cur ++ [y])
      simp at this ⊢
      omega
theorem cutF_all (s : ByteArray) (c : UInt8) : (cutF s c s.size 0).map (·.data.toList) = cutA c [] s.data.toList := by
  rw [cutF_data s c s.size 0 (Nat.le_refl _) (by omega), Nat.sub_self, Nat.sub_self, List.take_zero, List.drop_zero]
theorem cutF_le (s : ByteArray) (c : UInt8) : ∀ x ∈ cutF s c s.size 0, x.size ≤ s.size := fun x hx => by
  have h := cutA_size c s.data.toList [] x.data.toList (by rw [← cutF_all]; exact List.mem_map.2 ⟨x, hx, rfl⟩)
  simpa using h
theorem cutF_len (s : ByteArray) (c : UInt8) : (cutF s c s.size 0).length ≤ s.size + 1 ∧ 1 ≤ (cutF s c s.size 0).length := by
  have h := cutA_len c s.data.toList []
  rw [← cutF_all, List.length_map] at h
  simpa using h
theorem word_le (s : ByteArray) : ∀ x ∈ wordsB s, x.size ≤ s.size := fun x hx => cutF_le s 32 x (by rw [cut_words]; exact hx)
theorem words_le (s : ByteArray) : (wordsB s).length ≤ s.size + 1 ∧ 1 ≤ (wordsB s).length := by
  have h := cutF_len s 32
  rw [cut_words] at h
  exact h
theorem linesD_mem : ∀ (L : List ByteArray), ∀ x ∈ linesD L, x ∈ L
  | [], x, h => h
  | [z], x, h => by
    unfold linesD at h
    split at h
    · cases h
    · exact h
  | z :: y :: r, x, h => by
    rcases List.mem_cons.1 (show x ∈ z :: linesD (y :: r) from h) with rfl | h
    · simp
    · exact List.mem_cons_of_mem _ (linesD_mem (y :: r) x h)
theorem linesD_len : ∀ (L : List ByteArray), (linesD L).length ≤ L.length
  | [] => Nat.le_refl _
  | [z] => by
    unfold linesD
    split <;> simp
  | z :: y :: r => by
    show (z :: linesD (y :: r)).length ≤ _
    have := linesD_len (y :: r)
    simp at this ⊢
    omega
theorem line_le (t : ByteArray) : ∀ x ∈ linesT t, x.size ≤ t.size := fun x hx => cutF_le t 10 x (linesD_mem _ x hx)
theorem lines_le (t : ByteArray) : (linesT t).length ≤ t.size + 1 := Nat.le_trans (linesD_len _) (cutF_len t 10).1
theorem getD_mem {α : Type} (l : List α) (i : Nat) (x : α) (h : i < l.length) : l.getD i x ∈ l := by
  rw [List.getD_eq_getElem?_getD, List.getElem?_eq_getElem h]
  exact List.getElem_mem h
theorem word_at (s : ByteArray) (i : Nat) (h : i < (wordsB s).length) : ((wordsB s).getD i tNil).size ≤ s.size := word_le s _ (getD_mem _ _ _ h)
theorem numsOf_bd : ∀ {ws : List ByteArray} {ns : List Int}, numsOf ws = some ns → ∀ n ∈ ns, 0 ≤ n ∧ n ≤ 9999999
  | [], ns, h, n, hn => by injection h with h; subst h; cases hn
  | s :: r, ns, h, n, hn => by
    unfold numsOf at h
    split at h
    · rename_i hk
      cases hr : numsOf r with
      | none => rw [hr] at h; cases h
      | some ms =>
        rw [hr] at h
        injection h with h
        subst h
        rcases List.mem_cons.1 hn with rfl | hn
        · unfold numK at hk ⊢
          split at hk
          · rename_i hc
            rw [if_pos hc]
            have h1 := valN_lt s.data.toList (canN_parts hc.2).2.1
            have h2 : (10 : Nat) ^ s.data.toList.length ≤ 10 ^ 7 := Nat.pow_le_pow_right (by decide) (by have := hc.1; simpa using this)
            show 0 ≤ (valN s.data.toList : Int) ∧ (valN s.data.toList : Int) ≤ 9999999
            omega
          · cases hk
        · exact numsOf_bd hr n hn
    · cases h
theorem numsOf_at {ws : List ByteArray} {ns : List Int} (h : numsOf ws = some ns) (i : Nat) : 0 ≤ ns.getD i 0 ∧ ns.getD i 0 ≤ 9999999 := by
  by_cases hi : i < ns.length
  · exact numsOf_bd h _ (getD_mem _ _ _ hi)
  · rw [List.getD_eq_getElem?_getD, List.getElem?_eq_none (by omega)]; simp

end Go.Proofs.YtegiffdlfpdbkaaGreatDoor
