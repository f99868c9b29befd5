/- A text cut at each blank: the library's Split and the reference's Cut are one. -/
import Derived.Test.YtegiffdlfpdbkaaGreatDoorRows
import Derived.Test.YtegiffdlfpdbkaaGreatDoorBase
import Derived.Test.YtegiffdlfpdbkaaGreatDoorWordsA
import Derived.Test.YtegiffdlfpdbkaaGreatDoorParse
import Derived.Test.YtegiffdlfpdbkaaGreatDoorRefCut
namespace Go.Proofs.YtegiffdlfpdbkaaGreatDoor
open Go.RowKit
set_option maxRecDepth 100000
set_option linter.unusedVariables false
set_option linter.unusedSimpArgs false

/-- A list cut at each c, one byte at a time. -/
def cutA (c : UInt8) : List UInt8 → List UInt8 → List (List UInt8)
  | cur, [] => [cur]
  | cur, x :: r => if x = c then cur :: cutA c [] r else cutA c (cur ++ [x]) r
theorem split_cutA : ∀ (l cur : List UInt8), (∀ x ∈ cur, x ≠ 32) → Lib.splitK [32] 0 (l.count 32) (cur ++ l) = cutA 32 cur l
  | [], cur, h => by rw [List.count_nil, List.append_nil]; rfl
  | x :: r, cur, h => by
    by_cases hx : x = 32
    · subst hx
      have ih := split_cutA r [] (by simp)
      rw [List.nil_append] at ih
      rw [List.count_cons_self, splitK_step _ cur r h, ih, cutA, if_pos rfl]
    · have ih := split_cutA r (cur ++ [x]) (fun y hy => by
        rcases List.mem_append.1 hy with h1 | h1
        · exact h y h1
        · rw [List.mem_singleton.1 h1]; exact hx)
      rw [List.append_assoc] at ih
      rw [List.count_cons_of_ne (by simpa using hx), cutA, if_neg hx, ← ih]
      rfl
theorem cutF_data (s : ByteArray) (c : UInt8) : ∀ (k f : Nat), k ≤ s.size → f ≤ s.size - k → (cutF s c k f).map (·.data.toList) = cutA c ((s.data.toList.drop f).take (s.size - k - f)) (s.data.toList.drop (s.size - k))
  | 0, f, _, hf => by
    have hl : s.data.toList.length = s.size := by simp
    rw [Nat.sub_zero, show s.data.toList.drop s.size = [] from List.drop_eq_nil_of_le (by omega)]
    show [(s.extract f s.size).data.toList] = [_]
    rw [Lib.extract_data]
  | k + 1, f, hk, hf => by
    have hl : s.data.toList.length = s.size := by simp
    obtain ⟨i, hi⟩ : ∃ i, s.size - (k + 1) = i := ⟨_, rfl⟩
    have hik : s.size - k = i + 1 := by omega
    have hlt : i < s.data.toList.length := by omega
    have hd : s.data.toList.drop i = s.data.toList.getD i 0 :: s.data.toList.drop (i + 1) := by
      rw [List.drop_eq_getElem_cons hlt, List.getD_eq_getElem?_getD, List.getElem?_eq_getElem hlt]; rfl
    show ((if s.data.toList.getD (s.size - (k + 1)) 0 = c then s.extract f (s.size - (k + 1)) :: cutF s c k (s.size - k) else cutF s c k f)).map (·.data.toList) = _
    rw [hi, hik, hd, cutA]
    by_cases hc : s.data.toList.getD i 0 = c
    · rw [if_pos hc, if_pos hc, List.map_cons, cutF_data s c k (i + 1) (by omega) (by omega), hik, Nat.sub_self, List.take_zero, Lib.extract_data]
    · rw [if_neg hc, if_neg hc, cutF_data s c k f (by omega) (by omega), hik]
      have e : (s.data.toList.drop f).take (i - f) ++ [s.data.toList.getD i 0] = (s.data.toList.drop f).take (i + 1 - f) := by
        have h1 : i - f < (s.data.toList.drop f).length := by rw [List.length_drop]; omega
        rw [show i + 1 - f = (i - f) + 1 by omega, List.take_succ_eq_append_getElem h1]
        congr 2
        rw [List.getElem_drop, List.getD_eq_getElem?_getD]
        have e2 : f + (i - f) = i := by omega
        simp only [e2]
        rw [List.getElem?_eq_getElem hlt]; rfl
      rw [e]
theorem maps_inj : ∀ (a b : List ByteArray), a.map (·.data.toList) = b.map (·.data.toList) → a = b
  | [], [], _ => rfl
  | [], y :: s, h => by simp at h
  | x :: r, [], h => by simp at h
  | x :: r, y :: s, h => by
    rw [List.map_cons, List.map_cons] at h
    injection h with h1 h2
    rw [bytes_ext h1, maps_inj r s h2]
theorem cut_words (s : ByteArray) : cutF s 32 s.size 0 = wordsB s := by
  refine maps_inj _ _ ?_
  have hl : s.data.toList.length = s.size := by simp
  rw [cutF_data s 32 s.size 0 (Nat.le_refl _) (by omega)]
  unfold wordsB
  rw [Lib.splitB_data]
  have e : Lib.countB s spB = s.data.toList.count 32 := Lib.count_one 32 s.data.toList
  rw [e, Nat.sub_self, Nat.sub_self, List.take_zero, List.drop_zero]
  have h := split_cutA s.data.toList [] (by simp)
  rw [List.nil_append] at h
  exact h.symm

end Go.Proofs.YtegiffdlfpdbkaaGreatDoor
