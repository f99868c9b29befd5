/- Records of a log, in plain words: how they are written, and read again. -/
import Derived.Test.YtkipjloapdolbaaGreatDoorRows
import Derived.Test.YtkipjloapdolbaaGreatDoorNum
import Derived.Test.YtkipjloapdolbaaGreatDoorImg
import Derived.Test.YtkipjloapdolbaaGreatDoorImg2
import Derived.Test.YtkipjloapdolbaaGreatDoorNumP
import Derived.Test.YtkipjloapdolbaaGreatDoorWordsA
import Derived.Test.YtkipjloapdolbaaGreatDoorCntP
import Derived.Test.YtkipjloapdolbaaGreatDoorLines
import Derived.Test.YtkipjloapdolbaaGreatDoorLogA
import Derived.Lib.Strings
import Derived.Lib.IndexMore
import Derived.Lib.CutLaws
namespace Go.Proofs.YtkipjloapdolbaaGreatDoor
set_option maxRecDepth 100000
set_option linter.unusedVariables false
set_option linter.unusedSimpArgs false

/-- A record: a name, and a number. -/
abbrev Rec := ByteArray × Int
def recB (r : Rec) : ByteArray := recS r.1 r.2
def recsB (rs : List Rec) : List ByteArray := rs.map recB
def raisedL (rs : List Rec) : List Cnt := rs.foldl (fun ls r => raiseL ls r.1 r.2) []
theorem raisedL_snoc (rs : List Rec) (r : Rec) : raisedL (rs ++ [r]) = raiseL (raisedL rs) r.1 r.2 := by unfold raisedL; rw [List.foldl_append]; rfl
theorem raisedL_len : ∀ (rs : List Rec), (raisedL rs).length ≤ 12 := by
  have gen : ∀ (rs : List Rec) (ls : List Cnt), ls.length ≤ 12 → (rs.foldl (fun ls r => raiseL ls r.1 r.2) ls).length ≤ 12 := by
    intro rs
    induction rs with
    | nil => intro ls h; exact h
    | cons r rs ih => intro ls h; exact ih _ (raiseL_len r.1 r.2 h)
  intro rs
  exact gen rs [] (by decide)
/-- Records that were raised one by one. -/
def RecsOK (rs : List Rec) : Prop := ∀ (pre : List Rec) (r : Rec) (rest : List Rec), rs = pre ++ r :: rest → raiseB (raisedL pre) r.1 r.2 = true
theorem raiseB_ok {ls : List Cnt} {s : ByteArray} {x : Int} (h : raiseB ls s x = true) : raiseE ls s x = 0 ∧ okName s = true ∧ 1 ≤ s.size ∧ s.size ≤ 8 ∧ lowS s = true ∧ 0 ≤ x ∧ x ≤ 1000 := by
  unfold raiseB at h
  cases hs : okName s
  · simp [hs] at h
  · simp only [hs, if_true] at h
    by_cases hx : x < 0 ∨ 1000 < x
    · simp [hx] at h
    · rw [if_neg hx] at h
      have hk : lowS s = true ∧ 1 ≤ s.size ∧ s.size ≤ 8 := by
        unfold okName at hs
        simp only [Bool.and_eq_true, decide_eq_true_eq] at hs
        exact ⟨hs.1, hs.2.1, hs.2.2⟩
      refine ⟨?_, rfl, hk.2.1, hk.2.2, hk.1, by omega, by omega⟩
      unfold raiseE
      rw [hs, if_pos rfl, if_neg hx]
      by_cases h1 : x ≤ ofL ls s.data.toList
      · rw [if_pos h1]
      · rw [if_neg h1] at h ⊢
        by_cases h2 : hasL ls s.data.toList = true
        · rw [if_pos h2]
        · rw [if_neg h2] at h ⊢
          by_cases h3 : ls.length < 12
          · rw [if_pos h3]
          · rw [if_neg h3] at h; cases h
theorem RecsOK.nil_ : RecsOK [] := fun pre r rest h => by simp at h
theorem RecsOK.snoc {rs : List Rec} {s : ByteArray} {x : Int} (h : RecsOK rs) (hb : raiseB (raisedL rs) s x = true) : RecsOK (rs ++ [(s, x)]) := fun pre r rest he => by
  rcases List.eq_nil_or_concat rest with rfl | ⟨rest', z, rfl⟩
  · have e := List.append_inj' he rfl
    obtain ⟨rfl, e2⟩ := e
    injection e2 with e2
    subst e2
    exact hb
  · have he2 : rs ++ [(s, x)] = (pre ++ r :: rest') ++ [z] := by rw [he, List.concat_eq_append, List.append_assoc]; rfl
    exact h pre r rest' (List.append_inj_left' he2 rfl)
theorem RecsOK.take {rs : List Rec} (h : RecsOK rs) (k : Nat) : RecsOK (rs.take k) := fun pre r rest he => h pre r (rest ++ rs.drop k) (by
  have h1 := (List.take_append_drop k rs).symm
  rw [he, List.append_assoc] at h1
  exact h1)
/-- A record's bytes. -/
theorem recS_data (s : ByteArray) (v : Int) : (recS s v).data.toList = (s.data.toList ++ 32 :: Lib.itoa v) ++ [10] := by
  unfold recS
  simp
  rfl
theorem itoa_dig {v : Int} (h0 : 0 ≤ v) : canN (Lib.itoa v) = true ∧ (valN (Lib.itoa v) : Int) = v := by
  obtain ⟨m, rfl⟩ := Int.eq_ofNat_of_zero_le h0
  obtain ⟨p1, p2⟩ := can_digits m
  rw [Lib.itoa_nonneg]
  exact ⟨p1, by rw [p2]⟩
theorem low_ne {s : ByteArray} (h : lowS s = true) : ∀ c ∈ s.data.toList, c ≠ 10 ∧ c ≠ 32 := fun c hc => by
  unfold lowS bytesI at h
  have h1 := List.all_eq_true.1 h _ (List.mem_map.2 ⟨_, hc, rfl⟩)
  have h2 := of_decide_eq_true h1
  constructor
  · intro e; subst e; exact absurd h2 (by decide)
  · intro e; subst e; exact absurd h2 (by decide)
theorem dig_ne {l : List UInt8} (h : canN l = true) : ∀ c ∈ l, c ≠ 10 ∧ c ≠ 32 := fun c hc => by
  have h1 := List.all_eq_true.1 (canN_parts h).2.1 _ hc
  constructor
  · intro e; subst e; exact absurd h1 (by decide)
  · intro e; subst e; exact absurd h1 (by decide)
theorem recS_line {s : ByteArray} {v : Int} (hs : lowS s = true) (h0 : 0 ≤ v) : LineIs (recS s v) := by
  refine ⟨s.data.toList ++ 32 :: Lib.itoa v, recS_data s v, ?_⟩
  intro c hc
  rcases List.mem_append.1 hc with h | h
  · exact (low_ne hs c h).1
  · rcases List.mem_cons.1 h with rfl | h
    · decide
    · exact (dig_ne (itoa_dig h0).1 c h).1
theorem recsB_line {rs : List Rec} (h : RecsOK rs) : ∀ x ∈ recsB rs, LineIs x := fun x hx => by
  obtain ⟨r, hr, rfl⟩ := List.mem_map.1 hx
  obtain ⟨pre, rest, he⟩ := List.append_of_mem hr
  obtain ⟨_, _, _, _, h1, h2, _⟩ := raiseB_ok (h pre r rest he)
  exact recS_line h1 h2
/-- A record without its end, and cut. -/
theorem trim_rec (s : ByteArray) (v : Int) : Lib.trimSuffix (recS s v).data.toList [10] = s.data.toList ++ 32 :: Lib.itoa v := by
  obtain ⟨A, hA⟩ : ∃ A, s.data.toList ++ 32 :: Lib.itoa v = A := ⟨_, rfl⟩
  rw [recS_data, hA]
  have h : Lib.hasSuffix (A ++ [10]) [10] = true := by
    unfold Lib.hasSuffix
    exact List.isSuffixOf_iff_suffix.2 ⟨_, rfl⟩
  have e : (A ++ [10]).length - ([10] : List UInt8).length = A.length := by simp
  unfold Lib.trimSuffix
  rw [if_pos h, e, List.take_left]
theorem cut_rec {s : ByteArray} (v : Int) (hs : lowS s = true) : Lib.cut (s.data.toList ++ 32 :: Lib.itoa v) [32] = (s.data.toList, Lib.itoa v, true) := by
  have hi := index_sp s.data.toList (Lib.itoa v) (fun c hc => (low_ne hs c hc).2)
  unfold Lib.cut
  rw [hi, if_pos (by omega)]
  have e : ((s.data.toList.length : Int).toNat + [(32 : UInt8)].length) = s.data.toList.length + 1 := by simp
  rw [e, Int.toNat_natCast, List.take_left, show s.data.toList.length + 1 = s.data.toList.length + 1 from rfl, List.drop_append]
  simp
theorem atoi_rec {v : Int} (h0 : 0 ≤ v) (h1 : v ≤ 1000) : Lib.atoiAll (Lib.itoa v) = .ok v := by
  obtain ⟨p1, p2⟩ := itoa_dig h0
  have hl := itoa_len h0 h1
  have e : (itoaS v).size = (Lib.itoa v).length := by unfold itoaS; rfl
  rw [e] at hl
  have := (atoi_can p1 hl).1
  rw [p2] at this
  exact this

end Go.Proofs.YtkipjloapdolbaaGreatDoor
