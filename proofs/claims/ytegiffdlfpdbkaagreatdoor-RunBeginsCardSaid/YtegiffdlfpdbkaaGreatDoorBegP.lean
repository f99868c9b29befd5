/- The answers to a beginning are a beginning of the answers, in plain words; a session that is told outright. -/
import Derived.Test.YtegiffdlfpdbkaaGreatDoorRows
import Derived.Test.YtegiffdlfpdbkaaGreatDoorNum
import Derived.Test.YtegiffdlfpdbkaaGreatDoorBase
import Derived.Test.YtegiffdlfpdbkaaGreatDoorWordsA
import Derived.Test.YtegiffdlfpdbkaaGreatDoorNumP
import Derived.Test.YtegiffdlfpdbkaaGreatDoorCntP
import Derived.Test.YtegiffdlfpdbkaaGreatDoorParse
import Derived.Test.YtegiffdlfpdbkaaGreatDoorRefCut
import Derived.Test.YtegiffdlfpdbkaaGreatDoorRefL
import Derived.Test.YtegiffdlfpdbkaaGreatDoorRefNum
import Derived.Test.YtegiffdlfpdbkaaGreatDoorCutW
import Derived.Test.YtegiffdlfpdbkaaGreatDoorRunP
import Derived.Test.YtegiffdlfpdbkaaGreatDoorRunL
import Derived.Test.YtegiffdlfpdbkaaGreatDoorRunS
import Derived.Test.YtegiffdlfpdbkaaGreatDoorRunT
import Derived.Test.YtegiffdlfpdbkaaGreatDoorSesP
namespace Go.Proofs.YtegiffdlfpdbkaaGreatDoor
open Go.RowKit
set_option maxRecDepth 100000
set_option linter.unusedVariables false
set_option linter.unusedSimpArgs false

theorem itoa_lowB (n : Nat) (h : n < 10) : itoaS (n : Int) = toB [UInt8.ofNat (48 + n)] := by
  rw [← digS_itoa, digS_low h, tenS_at n h]; rfl
theorem itoa_highB (n : Nat) (h : ¬ n < 10) : itoaS (n : Int) = itoaS ((n / 10 : Nat) : Int) ++ toB [UInt8.ofNat (48 + n % 10)] := by
  rw [← digS_itoa, digS_high h, tenS_at (n % 10) (by omega), ← digS_itoa]; rfl
theorem fw0 : wordsB (toB [101, 120, 116, 101, 110, 100, 32, 51, 32, 53]) = [wExtend, toB [51], toB [53]] := by rw [words_toB]; rfl
theorem fr0 : lineR dsk0 [wExtend, toB [51], toB [53]] = (itoaS 6, { cnt := [], bank := [0, 0, 0, 6, 0, 0, 0, 0] }) := by kernel_rfl
theorem fw1 : wordsB (toB [101, 120, 116, 101, 110, 100, 32, 51, 32, 53]) = [wExtend, toB [51], toB [53]] := by rw [words_toB]; rfl
theorem fr1 : lineR { cnt := [], bank := [0, 0, 0, 6, 0, 0, 0, 0] } [wExtend, toB [51], toB [53]] = (itoaS 47520, { cnt := [], bank := [0, 0, 0, 47520, 0, 0, 0, 0] }) := by kernel_rfl
theorem fw2 : wordsB (toB [100, 105, 103, 101, 115, 116, 32, 48]) = [wDigest, toB [48]] := by rw [words_toB]; rfl
theorem fr2 : lineR { cnt := [], bank := [0, 0, 0, 47520, 0, 0, 0, 0] } [wDigest, toB [48]] = (itoaS 0, { cnt := [], bank := [0, 0, 0, 47520, 0, 0, 0, 0] }) := by kernel_rfl
theorem fw3 : wordsB (toB [102, 108, 121]) = [toB [102, 108, 121]] := by rw [words_toB]; rfl
theorem fr3 : lineR { cnt := [], bank := [0, 0, 0, 47520, 0, 0, 0, 0] } [toB [102, 108, 121]] = (tBad, { cnt := [], bank := [0, 0, 0, 47520, 0, 0, 0, 0] }) := by kernel_rfl
theorem fw4 : wordsB (toB [114, 97, 105, 115, 101, 32, 111, 115, 32, 53]) = [wRaise, toB [111, 115], toB [53]] := by rw [words_toB]; rfl
theorem fr4 : lineR { cnt := [], bank := [0, 0, 0, 47520, 0, 0, 0, 0] } [wRaise, toB [111, 115], toB [53]] = (tYes, { cnt := [(toB [111, 115], 5)], bank := [0, 0, 0, 47520, 0, 0, 0, 0] }) := by kernel_rfl
theorem fw5 : wordsB (toB [114, 97, 105, 115, 101, 32, 111, 115, 32, 51]) = [wRaise, toB [111, 115], toB [51]] := by rw [words_toB]; rfl
theorem fr5 : lineR { cnt := [(toB [111, 115], 5)], bank := [0, 0, 0, 47520, 0, 0, 0, 0] } [wRaise, toB [111, 115], toB [51]] = (tNo, { cnt := [(toB [111, 115], 5)], bank := [0, 0, 0, 47520, 0, 0, 0, 0] }) := by kernel_rfl
theorem fw6 : wordsB (toB [109, 97, 121, 32, 111, 115, 32, 52]) = [wMay, toB [111, 115], toB [52]] := by rw [words_toB]; rfl
theorem fr6 : lineR { cnt := [(toB [111, 115], 5)], bank := [0, 0, 0, 47520, 0, 0, 0, 0] } [wMay, toB [111, 115], toB [52]] = (errN 9, { cnt := [(toB [111, 115], 5)], bank := [0, 0, 0, 47520, 0, 0, 0, 0] }) := by kernel_rfl
theorem fw7 : wordsB (toB [109, 97, 121, 32, 111, 115, 32, 53]) = [wMay, toB [111, 115], toB [53]] := by rw [words_toB]; rfl
theorem fr7 : lineR { cnt := [(toB [111, 115], 5)], bank := [0, 0, 0, 47520, 0, 0, 0, 0] } [wMay, toB [111, 115], toB [53]] = (tOk, { cnt := [(toB [111, 115], 5)], bank := [0, 0, 0, 47520, 0, 0, 0, 0] }) := by kernel_rfl
theorem fw8 : wordsB (toB [112, 117, 98, 108, 105, 99, 32, 49]) = [wPublic, toB [49]] := by rw [words_toB]; rfl
theorem fr8 : lineR { cnt := [(toB [111, 115], 5)], bank := [0, 0, 0, 47520, 0, 0, 0, 0] } [wPublic, toB [49]] = (itoaS 64, { cnt := [(toB [111, 115], 5)], bank := [0, 0, 0, 47520, 0, 0, 0, 0] }) := by kernel_rfl
theorem fw9 : wordsB (toB [112, 117, 98, 108, 105, 99, 32, 48]) = [wPublic, toB [48]] := by rw [words_toB]; rfl
theorem fr9 : lineR { cnt := [(toB [111, 115], 5)], bank := [0, 0, 0, 47520, 0, 0, 0, 0] } [wPublic, toB [48]] = (errN 1, { cnt := [(toB [111, 115], 5)], bank := [0, 0, 0, 47520, 0, 0, 0, 0] }) := by kernel_rfl
theorem fw10 : wordsB (toB [109, 101, 97, 115, 117, 114, 101, 32, 97]) = [wMeasure, toB [97]] := by rw [words_toB]; rfl
theorem fr10 : lineR { cnt := [(toB [111, 115], 5)], bank := [0, 0, 0, 47520, 0, 0, 0, 0] } [wMeasure, toB [97]] = (itoaS 355, { cnt := [(toB [111, 115], 5)], bank := [0, 0, 0, 47520, 0, 0, 0, 0] }) := by kernel_rfl
abbrev fixA : ByteArray := { data := #[54, 10, 52, 55, 53, 50, 48, 10, 48, 10, 98, 97, 100, 10, 121, 101, 115, 10, 110, 111, 10, 69, 114, 114, 79, 108, 100, 10, 111, 107, 10, 54, 52, 10, 69, 114, 114, 82, 97, 110, 103, 101, 10, 51, 53, 53, 10] }
theorem n0 : itoaS 0 = toB [48] := itoa_lowB 0 (by decide)
theorem n6 : itoaS 6 = toB [54] := itoa_lowB 6 (by decide)
theorem n64 : itoaS 64 = toB [54, 52] := by
  have h := itoa_highB 64 (by decide)
  rw [show ((64 / 10 : Nat) : Int) = ((6 : Nat) : Int) from rfl, itoa_lowB 6 (by decide)] at h
  exact h
theorem n355 : itoaS 355 = toB [51, 53, 53] := by
  have h := itoa_highB 355 (by decide)
  rw [show ((355 / 10 : Nat) : Int) = ((35 : Nat) : Int) from rfl, itoa_highB 35 (by decide), show ((35 / 10 : Nat) : Int) = ((3 : Nat) : Int) from rfl, itoa_lowB 3 (by decide)] at h
  exact h
theorem n47520 : itoaS 47520 = toB [52, 55, 53, 50, 48] := by
  have h := itoa_highB 47520 (by decide)
  rw [show ((47520 / 10 : Nat) : Int) = ((4752 : Nat) : Int) from rfl, itoa_highB 4752 (by decide), show ((4752 / 10 : Nat) : Int) = ((475 : Nat) : Int) from rfl, itoa_highB 475 (by decide), show ((475 / 10 : Nat) : Int) = ((47 : Nat) : Int) from rfl, itoa_highB 47 (by decide), show ((47 / 10 : Nat) : Int) = ((4 : Nat) : Int) from rfl, itoa_lowB 4 (by decide)] at h
  exact h
theorem fix_run (t : ByteArray) (h : t.data.toList = [101, 120, 116, 101, 110, 100, 32, 51, 32, 53, 10, 101, 120, 116, 101, 110, 100, 32, 51, 32, 53, 10, 100, 105, 103, 101, 115, 116, 32, 48, 10, 102, 108, 121, 10, 114, 97, 105, 115, 101, 32, 111, 115, 32, 53, 10, 114, 97, 105, 115, 101, 32, 111, 115, 32, 51, 10, 109, 97, 121, 32, 111, 115, 32, 52, 10, 109, 97, 121, 32, 111, 115, 32, 53, 10, 112, 117, 98, 108, 105, 99, 32, 49, 10, 112, 117, 98, 108, 105, 99, 32, 48, 10, 109, 101, 97, 115, 117, 114, 101, 32, 97, 10]) : runT t = fixA := by
  have hz : t.size = 103 := by
    have h1 := congrArg List.length h
    simpa using h1
  unfold runT
  rw [if_neg (by omega)]
  have e1 : linesT t = [toB [101, 120, 116, 101, 110, 100, 32, 51, 32, 53], toB [101, 120, 116, 101, 110, 100, 32, 51, 32, 53], toB [100, 105, 103, 101, 115, 116, 32, 48], toB [102, 108, 121], toB [114, 97, 105, 115, 101, 32, 111, 115, 32, 53], toB [114, 97, 105, 115, 101, 32, 111, 115, 32, 51], toB [109, 97, 121, 32, 111, 115, 32, 52], toB [109, 97, 121, 32, 111, 115, 32, 53], toB [112, 117, 98, 108, 105, 99, 32, 49], toB [112, 117, 98, 108, 105, 99, 32, 48], toB [109, 101, 97, 115, 117, 114, 101, 32, 97]] := by rw [lines_toB, h]; rfl
  rw [e1]
  unfold runF
  simp only [List.foldl_cons, List.foldl_nil, stepR, fw0, fr0, fw1, fr1, fw2, fr2, fw3, fr3, fw4, fr4, fw5, fr5, fw6, fr6, fw7, fr7, fw8, fr8, fw9, fr9, fw10, fr10]
  rw [n6, n47520, n0, n64, n355]
  rfl

theorem cutA_nl (c : UInt8) : ∀ (q cur b : List UInt8), ∃ M, cutA c cur (q ++ [c]) = M ++ [[]] ∧ cutA c cur (q ++ c :: b) = M ++ cutA c [] b
  | [], cur, b => by
    refine ⟨[cur], ?_, ?_⟩
    · show (if c = c then cur :: cutA c [] [] else _) = _
      rw [if_pos rfl]; rfl
    · show (if c = c then cur :: cutA c [] b else _) = _
      rw [if_pos rfl]; rfl
  | x :: q, cur, b => by
    by_cases h : x = c
    · obtain ⟨M, h1, h2⟩ := cutA_nl c q [] b
      refine ⟨cur :: M, ?_, ?_⟩
      · show (if x = c then cur :: cutA c [] (q ++ [c]) else _) = _
        rw [if_pos h, h1]; rfl
      · show (if x = c then cur :: cutA c [] (q ++ c :: b) else _) = _
        rw [if_pos h, h2]; rfl
    · obtain ⟨M, h1, h2⟩ := cutA_nl c q (cur ++ [x]) b
      refine ⟨M, ?_, ?_⟩
      · show (if x = c then _ else cutA c (cur ++ [x]) (q ++ [c])) = _
        rw [if_neg h, h1]
      · show (if x = c then _ else cutA c (cur ++ [x]) (q ++ c :: b)) = _
        rw [if_neg h, h2]
theorem linesD_app : ∀ (L M : List ByteArray), M ≠ [] → linesD (L ++ M) = L ++ linesD M
  | [], M, _ => rfl
  | x :: r, M, h => by
    have ih := linesD_app r M h
    cases hr : r ++ M with
    | nil => exact absurd (List.append_eq_nil_iff.1 hr).2 h
    | cons y s =>
      show linesD (x :: (r ++ M)) = x :: (r ++ linesD M)
      rw [← ih, hr]; rfl
theorem fold_app : ∀ (B : List ByteArray) (p : Dsk × ByteArray), ∃ r, (B.foldl stepR p).2 = p.2 ++ r
  | [], p => ⟨tNil, by rw [List.foldl_nil]; refine bytes_ext ?_; simp⟩
  | s :: B, p => by
    obtain ⟨r, hr⟩ := fold_app B (stepR p s)
    refine ⟨((lineR p.1 (wordsB s)).1 ++ tNl) ++ r, ?_⟩
    rw [List.foldl_cons, hr]
    show (p.2 ++ ((lineR p.1 (wordsB s)).1 ++ tNl)) ++ r = _
    refine bytes_ext ?_
    simp [List.append_assoc]
/-- The first so many bytes of a text are whole lines. -/
def Whole (t : ByteArray) (k : Nat) : Prop := k = 0 ∨ ∃ q, t.data.toList.take k = q ++ [10]
theorem extract_data (t : ByteArray) (k : Nat) : (t.extract 0 k).data.toList = t.data.toList.take k := by
  simp
theorem begins_whole (t : ByteArray) (k : Nat) (hz : t.size ≤ 3000) (h : Whole t k) : ∃ r, runT t = runT (t.extract 0 k) ++ r := by
  have hz2 : (t.extract 0 k).size ≤ 3000 := by rw [ByteArray.size_extract]; omega
  unfold runT
  rw [if_neg (by omega), if_neg (by omega)]
  rcases h with rfl | ⟨q, hq⟩
  · have e1 : linesT (t.extract 0 0) = [] := by rw [lines_toB, extract_data]; rfl
    rw [e1]
    refine ⟨(runF (linesT t)).2, ?_⟩
    refine bytes_ext ?_
    show _ = (tNil ++ (runF (linesT t)).2).data.toList
    simp
  · have hl : t.data.toList = q ++ 10 :: t.data.toList.drop k := by
      have h1 := (List.take_append_drop k t.data.toList).symm
      rw [hq, List.append_assoc] at h1
      exact h1
    obtain ⟨B, hB⟩ : ∃ B, t.data.toList.drop k = B := ⟨_, rfl⟩
    rw [hB] at hl
    obtain ⟨M, h1, h2⟩ := cutA_nl 10 q [] B
    have e1 : linesT (t.extract 0 k) = M.map toB := by
      rw [lines_toB, extract_data, hq, h1, List.map_append, linesD_app _ _ (by simp)]
      show M.map toB ++ linesD [toB []] = _
      show M.map toB ++ [] = _
      rw [List.append_nil]
    have e2 : linesT t = M.map toB ++ linesD ((cutA 10 [] B).map toB) := by
      rw [lines_toB, hl, h2, List.map_append]
      refine linesD_app _ _ (fun e => ?_)
      have h4 := (cutA_len 10 B []).2
      have e4 : cutA 10 [] B = [] := List.map_eq_nil_iff.1 e
      rw [e4] at h4
      simp at h4
    rw [e1, e2]
    unfold runF
    rw [List.foldl_append]
    exact fold_app _ _
theorem begins_all (t : ByteArray) : ∃ r, runT t = runT (t.extract 0 t.size) ++ r := by
  have e : t.extract 0 t.size = t := bytes_ext (by rw [extract_data]; exact List.take_of_length_le (by simp))
  rw [e]
  exact ⟨tNil, by refine bytes_ext ?_; simp⟩
theorem whole_step {t : ByteArray} {k : Nat} (hk : k < t.size) (h : (t[k]).toNat = 10) : Whole t (k + 1) := by
  refine Or.inr ⟨t.data.toList.take k, ?_⟩
  have h1 : k < t.data.toList.length := by simpa using hk
  rw [List.take_succ_eq_append_getElem h1]
  have h2 : t.data.toList[k] = 10 := UInt8.toNat_inj.1 h
  rw [h2]
theorem prefix_eq (a r : ByteArray) : (a ++ r).extract 0 a.size = a := bytes_ext (by
  rw [extract_data]
  have e : (a ++ r).data.toList = a.data.toList ++ r.data.toList := by simp
  have e2 : a.size = a.data.toList.length := by simp
  rw [e, e2, List.take_left])

end Go.Proofs.YtegiffdlfpdbkaaGreatDoor
