/- Sessions in plain words: words and lines reckoned byte by byte; a session that seals. -/
import Derived.Test.YtegiffdlfpdbkaaGreatDoorRows
import Derived.Test.YtegiffdlfpdbkaaGreatDoorNum
import Derived.Test.YtegiffdlfpdbkaaGreatDoorSeal
import Derived.Test.YtegiffdlfpdbkaaGreatDoorBase
import Derived.Test.YtegiffdlfpdbkaaGreatDoorWordsA
import Derived.Test.YtegiffdlfpdbkaaGreatDoorNumP
import Derived.Test.YtegiffdlfpdbkaaGreatDoorCntP
import Derived.Test.YtegiffdlfpdbkaaGreatDoorParse
import Derived.Test.YtegiffdlfpdbkaaGreatDoorRefCut
import Derived.Test.YtegiffdlfpdbkaaGreatDoorRefL
import Derived.Test.YtegiffdlfpdbkaaGreatDoorRefNum
import Derived.Test.YtegiffdlfpdbkaaGreatDoorCutW
import Derived.Test.YtegiffdlfpdbkaaGreatDoorRunP
import Derived.Test.YtegiffdlfpdbkaaGreatDoorRunL
import Derived.Test.YtegiffdlfpdbkaaGreatDoorRunS
import Derived.Test.YtegiffdlfpdbkaaGreatDoorRunT
namespace Go.Proofs.YtegiffdlfpdbkaaGreatDoor
open Go.RowKit
set_option maxRecDepth 100000
set_option linter.unusedVariables false
set_option linter.unusedSimpArgs false

def toB (l : List UInt8) : ByteArray := ⟨l.toArray⟩
theorem toB_data (l : List UInt8) : (toB l).data.toList = l := rfl
theorem toB_of (s : ByteArray) : toB s.data.toList = s := bytes_ext rfl
theorem cutF_toB (s : ByteArray) (c : UInt8) : cutF s c s.size 0 = (cutA c [] s.data.toList).map toB := by
  refine maps_inj _ _ ?_
  rw [cutF_all, List.map_map]
  have : (fun x : ByteArray => x.data.toList) ∘ toB = id := by funext l; rfl
  show _ = (cutA c [] s.data.toList).map ((fun x : ByteArray => x.data.toList) ∘ toB)
  rw [this, List.map_id]
theorem words_toB (s : ByteArray) : wordsB s = (cutA 32 [] s.data.toList).map toB := by rw [← cut_words]; exact cutF_toB s 32
theorem lines_toB (t : ByteArray) : linesT t = linesD ((cutA 10 [] t.data.toList).map toB) := by
  unfold linesT cutN
  rw [cutF_toB]
theorem cutA_at (c : UInt8) : ∀ (a cur b : List UInt8), (∀ x ∈ a, x ≠ c) → cutA c cur (a ++ c :: b) = (cur ++ a) :: cutA c [] b
  | [], cur, b, _ => by
    rw [List.nil_append, List.append_nil]
    show (if c = c then cur :: cutA c [] b else _) = _
    rw [if_pos rfl]
  | x :: a, cur, b, h => by
    have hx : x ≠ c := h x (by simp)
    show (if x = c then cur :: cutA c [] (a ++ c :: b) else cutA c (cur ++ [x]) (a ++ c :: b)) = _
    rw [if_neg hx, cutA_at c a (cur ++ [x]) b (fun y hy => h y (List.mem_cons_of_mem _ hy)), List.append_assoc]
    rfl
theorem cutA_end (c : UInt8) : ∀ (a cur : List UInt8), (∀ x ∈ a, x ≠ c) → cutA c cur a = [cur ++ a]
  | [], cur, _ => by rw [List.append_nil]; rfl
  | x :: a, cur, h => by
    have hx : x ≠ c := h x (by simp)
    show (if x = c then cur :: cutA c [] a else cutA c (cur ++ [x]) a) = _
    rw [if_neg hx, cutA_end c a (cur ++ [x]) (fun y hy => h y (List.mem_cons_of_mem _ hy)), List.append_assoc]
    rfl
theorem itoa_dig {n : Int} (h0 : 0 ≤ n) : ∀ x ∈ (itoaS n).data.toList, x ≠ 32 ∧ x ≠ 10 := fun x hx => by
  obtain ⟨m, rfl⟩ := Int.eq_ofNat_of_zero_le h0
  have e : (itoaS (m : Int)).data.toList = Lib.decDigits m := by
    show Lib.itoa (m : Int) = _
    unfold Lib.itoa
    rw [if_neg (by omega), Int.toNat_natCast]
  rw [e] at hx
  have h1 := List.all_eq_true.1 (canN_parts (can_digits m).1).2.1 x hx
  unfold isDig at h1
  constructor
  · rintro rfl; revert h1; decide
  · rintro rfl; revert h1; decide
theorem num_itoa {n : Int} (h0 : 0 ≤ n) (h1 : n ≤ 9999999) : numK 7 (itoaS n) = (n, true) := by
  obtain ⟨m, rfl⟩ := Int.eq_ofNat_of_zero_le h0
  have e : (itoaS (m : Int)).data.toList = Lib.decDigits m := by
    show Lib.itoa (m : Int) = _
    unfold Lib.itoa
    rw [if_neg (by omega), Int.toNat_natCast]
  have hl : (itoaS (m : Int)).size ≤ 7 := by
    have h2 := dec_len 6 m (by omega)
    have h3 : (itoaS (m : Int)).data.toList.length = (itoaS (m : Int)).size := by simp
    rw [e] at h3
    omega
  rw [numK_yes ⟨hl, by rw [e]; exact (can_digits m).1⟩, e, (can_digits m).2]
theorem nums_cons {n : Int} {r : List ByteArray} {ns : List Int} (h0 : 0 ≤ n) (h1 : n ≤ 9999999) (h : numsOf r = some ns) : numsOf (itoaS n :: r) = some (n :: ns) := by
  unfold numsOf
  rw [num_itoa h0 h1, if_pos rfl, h]; rfl

abbrev tPub : ByteArray := { data := #[112, 117, 98, 108, 105, 99, 32] }
abbrev tSgn : ByteArray := { data := #[10, 115, 105, 103, 110, 32] }
abbrev tChk : ByteArray := { data := #[99, 104, 101, 99, 107, 32] }
/-- The first session. -/
def ses1 (a b c : ByteArray) : ByteArray := tPub ++ a ++ tSgn ++ a ++ tSp ++ b ++ tSp ++ c ++ tNl
/-- The second one. -/
def ses2 (l0 c l1 : ByteArray) : ByteArray := tChk ++ l0 ++ tSp ++ c ++ tSp ++ l1 ++ tNl

theorem ses1_lines (a b c : ByteArray) (ha : ∀ x ∈ a.data.toList, x ≠ 10) (hb : ∀ x ∈ b.data.toList, x ≠ 10) (hc : ∀ x ∈ c.data.toList, x ≠ 10) :
    linesT (ses1 a b c) = [toB ([112, 117, 98, 108, 105, 99, 32] ++ a.data.toList), toB ([115, 105, 103, 110, 32] ++ a.data.toList ++ [32] ++ b.data.toList ++ [32] ++ c.data.toList)] := by
  rw [lines_toB]
  have e : (ses1 a b c).data.toList = ([112, 117, 98, 108, 105, 99, 32] ++ a.data.toList) ++ 10 :: (([115, 105, 103, 110, 32] ++ a.data.toList ++ [32] ++ b.data.toList ++ [32] ++ c.data.toList) ++ 10 :: []) := by
    unfold ses1
    simp [List.append_assoc]
  rw [e, cutA_at 10 _ _ _ (fun x hx => by
    rcases List.mem_append.1 hx with h | h
    · clear hx; revert x; decide
    · exact ha x h), cutA_at 10 _ _ _ (fun x hx => by
    simp only [List.mem_append] at hx
    rcases hx with ((((h | h) | h) | h) | h) | h
    · revert x; decide
    · exact ha x h
    · revert x; decide
    · exact hb x h
    · revert x; decide
    · exact hc x h)]
  rfl
theorem ses2_lines (l0 c l1 : ByteArray) (h0 : ∀ x ∈ l0.data.toList, x ≠ 10) (hc : ∀ x ∈ c.data.toList, x ≠ 10) (h1 : ∀ x ∈ l1.data.toList, x ≠ 10) :
    linesT (ses2 l0 c l1) = [toB ([99, 104, 101, 99, 107, 32] ++ l0.data.toList ++ [32] ++ c.data.toList ++ [32] ++ l1.data.toList)] := by
  rw [lines_toB]
  have e : (ses2 l0 c l1).data.toList = ([99, 104, 101, 99, 107, 32] ++ l0.data.toList ++ [32] ++ c.data.toList ++ [32] ++ l1.data.toList) ++ 10 :: [] := by
    unfold ses2
    simp [List.append_assoc]
  rw [e, cutA_at 10 _ _ _ (fun x hx => by
    simp only [List.mem_append] at hx
    rcases hx with ((((h | h) | h) | h) | h) | h
    · revert x; decide
    · exact h0 x h
    · revert x; decide
    · exact hc x h
    · revert x; decide
    · exact h1 x h)]
  rfl
theorem words1 (w a : ByteArray) (hw : ∀ x ∈ w.data.toList, x ≠ 32) (ha : ∀ x ∈ a.data.toList, x ≠ 32) : wordsB (toB (w.data.toList ++ [32] ++ a.data.toList)) = [w, a] := by
  rw [words_toB, toB_data, List.append_assoc]
  show (cutA 32 [] (w.data.toList ++ 32 :: a.data.toList)).map toB = _
  rw [cutA_at 32 _ _ _ hw, cutA_end 32 _ _ ha]
  simp [toB_of]
theorem words3b (w a b c : ByteArray) (hw : ∀ x ∈ w.data.toList, x ≠ 32) (ha : ∀ x ∈ a.data.toList, x ≠ 32) (hb : ∀ x ∈ b.data.toList, x ≠ 32) (hc : ∀ x ∈ c.data.toList, x ≠ 32) :
    wordsB (toB (w.data.toList ++ [32] ++ a.data.toList ++ [32] ++ b.data.toList ++ [32] ++ c.data.toList)) = [w, a, b, c] := by
  rw [words_toB, toB_data]
  have e : w.data.toList ++ [32] ++ a.data.toList ++ [32] ++ b.data.toList ++ [32] ++ c.data.toList = w.data.toList ++ 32 :: (a.data.toList ++ 32 :: (b.data.toList ++ 32 :: c.data.toList)) := by simp [List.append_assoc]
  rw [e, cutA_at 32 _ _ _ hw, cutA_at 32 _ _ _ ha, cutA_at 32 _ _ _ hb, cutA_end 32 _ _ hc]
  simp [toB_of]
theorem words4 (w a b c d : ByteArray) (hw : ∀ x ∈ w.data.toList, x ≠ 32) (ha : ∀ x ∈ a.data.toList, x ≠ 32) (hb : ∀ x ∈ b.data.toList, x ≠ 32) (hc : ∀ x ∈ c.data.toList, x ≠ 32) (hd : ∀ x ∈ d.data.toList, x ≠ 32) :
    wordsB (toB (w.data.toList ++ [32] ++ a.data.toList ++ [32] ++ b.data.toList ++ [32] ++ (c.data.toList ++ [32] ++ d.data.toList))) = [w, a, b, c, d] := by
  rw [words_toB, toB_data]
  have e : w.data.toList ++ [32] ++ a.data.toList ++ [32] ++ b.data.toList ++ [32] ++ (c.data.toList ++ [32] ++ d.data.toList) = w.data.toList ++ 32 :: (a.data.toList ++ 32 :: (b.data.toList ++ 32 :: (c.data.toList ++ 32 :: d.data.toList))) := by simp [List.append_assoc]
  rw [e, cutA_at 32 _ _ _ hw, cutA_at 32 _ _ _ ha, cutA_at 32 _ _ _ hb, cutA_at 32 _ _ _ hc, cutA_end 32 _ _ hd]
  simp [toB_of]
theorem line_pub (d : Dsk) (x : Int) (h0 : 0 ≤ x) (h1 : x ≤ 9999999) : lineR d [wPublic, itoaS x] = (sayI (pubM x) (pubE x), d) := by
  unfold lineR
  rw [if_pos (by show ((2 : Nat) : Int) - 1 = wantN wPublic; decide), if_neg (by show ¬ isNamed wPublic = true; decide)]
  show (match numsOf [itoaS x] with | some ns => plainR d wPublic ns | none => (tBad, d)) = _
  rw [nums_cons h0 h1 rfl]
  show plainR d wPublic [x] = _
  unfold plainR
  rw [if_neg (by decide), if_neg (by decide), if_pos rfl]; rfl
theorem line_sign (d : Dsk) (x k m : Int) (hx : 0 ≤ x ∧ x ≤ 9999999) (hk : 0 ≤ k ∧ k ≤ 9999999) (hm : 0 ≤ m ∧ m ≤ 9999999) :
    lineR d [wSign, itoaS x, itoaS k, itoaS m] = (if sgE x k m = 0 then itoaS (sgP x k m) ++ tSp ++ itoaS (sgA x k m) else errN (sgE x k m), d) := by
  unfold lineR
  rw [if_pos (by show ((4 : Nat) : Int) - 1 = wantN wSign; decide), if_neg (by show ¬ isNamed wSign = true; decide)]
  show (match numsOf [itoaS x, itoaS k, itoaS m] with | some ns => plainR d wSign ns | none => (tBad, d)) = _
  rw [nums_cons hx.1 hx.2 (nums_cons hk.1 hk.2 (nums_cons hm.1 hm.2 rfl))]
  show plainR d wSign [x, k, m] = _
  unfold plainR
  rw [if_neg (by decide), if_neg (by decide), if_neg (by decide), if_pos rfl]; rfl
theorem line_check (d : Dsk) (q m p a : Int) (hq : 0 ≤ q ∧ q ≤ 9999999) (hm : 0 ≤ m ∧ m ≤ 9999999) (hp : 0 ≤ p ∧ p ≤ 9999999) (ha : 0 ≤ a ∧ a ≤ 9999999) :
    lineR d [wCheck, itoaS q, itoaS m, itoaS p, itoaS a] = (sayB (chkB q m p a) (chkE q m p a), d) := by
  unfold lineR
  rw [if_pos (by show ((5 : Nat) : Int) - 1 = wantN wCheck; decide), if_neg (by show ¬ isNamed wCheck = true; decide)]
  show (match numsOf [itoaS q, itoaS m, itoaS p, itoaS a] with | some ns => plainR d wCheck ns | none => (tBad, d)) = _
  rw [nums_cons hq.1 hq.2 (nums_cons hm.1 hm.2 (nums_cons hp.1 hp.2 (nums_cons ha.1 ha.2 rfl)))]
  show plainR d wCheck [q, m, p, a] = _
  unfold plainR
  rw [if_neg (by decide), if_neg (by decide), if_neg (by decide), if_neg (by decide)]; rfl

section
variable {x k m : Int} (hx : 1 ≤ x ∧ x ≤ 256) (hk : 1 ≤ k ∧ k ≤ 256) (hm : 0 ≤ m ∧ m ≤ 1000002)
include hx hk hm
theorem ses_small : (itoaS x).size ≤ 8 ∧ (itoaS k).size ≤ 8 ∧ (itoaS m).size ≤ 8 := ⟨itoa_len8 (by omega) (by omega), itoa_len8 (by omega) (by omega), itoa_len8 (by omega) (by omega)⟩
theorem ses1_run : runT (ses1 (itoaS x) (itoaS k) (itoaS m)) = itoaS (pwI 64 x) ++ tNl ++ (itoaS (pwI 64 k) ++ tSp ++ itoaS (sealA x k m) ++ tNl) := by
  obtain ⟨z1, z2, z3⟩ := ses_small hx hk hm
  have dx := itoa_dig (n := x) (by omega)
  have dk := itoa_dig (n := k) (by omega)
  have dm := itoa_dig (n := m) (by omega)
  have ox : okSecret x = true := decide_eq_true hx
  have ok_ : okSecret k = true := decide_eq_true hk
  have om : okM m = true := okM_mk hm.1 (by omega)
  have hsz : (ses1 (itoaS x) (itoaS k) (itoaS m)).size ≤ 3000 := by
    unfold ses1
    simp only [ByteArray.size_append]
    have a1 : (tPub : ByteArray).size = 7 := rfl
    have a2 : (tSgn : ByteArray).size = 6 := rfl
    have a3 : (tSp : ByteArray).size = 1 := rfl
    have a4 : (tNl : ByteArray).size = 1 := rfl
    omega
  unfold runT
  rw [if_neg (by omega), ses1_lines _ _ _ (fun y hy => (dx y hy).2) (fun y hy => (dk y hy).2) (fun y hy => (dm y hy).2)]
  have e1 : wordsB (toB ([112, 117, 98, 108, 105, 99, 32] ++ (itoaS x).data.toList)) = [wPublic, itoaS x] := words1 wPublic (itoaS x) (by decide) (fun y hy => (dx y hy).1)
  have e2 : wordsB (toB ([115, 105, 103, 110, 32] ++ (itoaS x).data.toList ++ [32] ++ (itoaS k).data.toList ++ [32] ++ (itoaS m).data.toList)) = [wSign, itoaS x, itoaS k, itoaS m] :=
    words3b wSign (itoaS x) (itoaS k) (itoaS m) (by decide) (fun y hy => (dx y hy).1) (fun y hy => (dk y hy).1) (fun y hy => (dm y hy).1)
  unfold runF
  simp only [List.foldl_cons, List.foldl_nil, stepR, e1, e2, line_pub _ x (by omega) (by omega), line_sign _ x k m (by omega) (by omega) (by omega)]
  have s1 : okSign x k m = true := by unfold okSign; rw [ox, ok_, om]; rfl
  have s2 : sgE x k m = 0 := by unfold sgE; rw [s1]; rfl
  have s3 : sgP x k m = pwI 64 k := by unfold sgP; rw [s1]; rfl
  have s4 : sgA x k m = sealA x k m := by unfold sgA; rw [s1]; rfl
  rw [if_pos s2, s3, s4, pubM_yes ox, pubE_yes ox]
  unfold sayI
  rw [if_pos rfl]
  refine bytes_ext ?_
  simp [List.append_assoc]
theorem ses1_cut : cutF (runT (ses1 (itoaS x) (itoaS k) (itoaS m))) 10 (runT (ses1 (itoaS x) (itoaS k) (itoaS m))).size 0 = [itoaS (pwI 64 x), itoaS (pwI 64 k) ++ tSp ++ itoaS (sealA x k m), tNil] := by
  rw [cutF_toB, ses1_run hx hk hm]
  have b1 := pwI_bd 64 x
  have b2 := pwI_bd 64 k
  have b3 := sealA_bd x k m
  have e : (itoaS (pwI 64 x) ++ tNl ++ (itoaS (pwI 64 k) ++ tSp ++ itoaS (sealA x k m) ++ tNl)).data.toList = (itoaS (pwI 64 x)).data.toList ++ 10 :: ((itoaS (pwI 64 k) ++ tSp ++ itoaS (sealA x k m)).data.toList ++ 10 :: []) := by
    simp [List.append_assoc]
  rw [e, cutA_at 10 _ _ _ (fun y hy => (itoa_dig b1.1 y hy).2), cutA_at 10 _ _ _ (fun y hy => by
    have hy2 : y ∈ (itoaS (pwI 64 k)).data.toList ++ [32] ++ (itoaS (sealA x k m)).data.toList := by simpa using hy
    simp only [List.mem_append] at hy2
    rcases hy2 with (h | h) | h
    · exact (itoa_dig b2.1 y h).2
    · clear hy; revert y; decide
    · exact (itoa_dig b3.1 y h).2)]
  show [toB ([] ++ _), toB ([] ++ _), toB []] = _
  rw [List.nil_append, List.nil_append, toB_of, toB_of]
  rfl
theorem ses2_run : runT (ses2 (itoaS (pwI 64 x)) (itoaS m) (itoaS (pwI 64 k) ++ tSp ++ itoaS (sealA x k m))) = { data := #[121, 101, 115, 10] } := by
  have b1 := pwI_bd 64 x
  have b2 := pwI_bd 64 k
  have b3 := sealA_bd x k m
  have z1 := itoa_len8 (v := pwI 64 x) b1.1 (by omega)
  have z2 := itoa_len8 (v := pwI 64 k) b2.1 (by omega)
  have z3 := itoa_len8 (v := sealA x k m) b3.1 (by omega)
  have z4 := (ses_small hx hk hm).2.2
  have d1 := itoa_dig (n := pwI 64 x) b1.1
  have d2 := itoa_dig (n := pwI 64 k) b2.1
  have d3 := itoa_dig (n := sealA x k m) b3.1
  have dm := itoa_dig (n := m) (by omega)
  have ox : okSecret x = true := decide_eq_true hx
  have ok_ : okSecret k = true := decide_eq_true hk
  have om : okM m = true := okM_mk hm.1 (by omega)
  have hsz : (ses2 (itoaS (pwI 64 x)) (itoaS m) (itoaS (pwI 64 k) ++ tSp ++ itoaS (sealA x k m))).size ≤ 3000 := by
    unfold ses2
    simp only [ByteArray.size_append]
    have a1 : (tChk : ByteArray).size = 6 := rfl
    have a3 : (tSp : ByteArray).size = 1 := rfl
    have a4 : (tNl : ByteArray).size = 1 := rfl
    omega
  have e0 : (itoaS (pwI 64 k) ++ tSp ++ itoaS (sealA x k m)).data.toList = (itoaS (pwI 64 k)).data.toList ++ [32] ++ (itoaS (sealA x k m)).data.toList := by simp
  unfold runT
  rw [if_neg (by omega), ses2_lines _ _ _ (fun y hy => (d1 y hy).2) (fun y hy => (dm y hy).2) (fun y hy => by
    rw [e0] at hy
    simp only [List.mem_append] at hy
    rcases hy with (h | h) | h
    · exact (d2 y h).2
    · revert y; decide
    · exact (d3 y h).2)]
  have e2 : wordsB (toB ([99, 104, 101, 99, 107, 32] ++ (itoaS (pwI 64 x)).data.toList ++ [32] ++ (itoaS m).data.toList ++ [32] ++ (itoaS (pwI 64 k) ++ tSp ++ itoaS (sealA x k m)).data.toList)) = [wCheck, itoaS (pwI 64 x), itoaS m, itoaS (pwI 64 k), itoaS (sealA x k m)] := by
    rw [e0]
    exact words4 wCheck _ _ _ _ (by decide) (fun y hy => (d1 y hy).1) (fun y hy => (dm y hy).1) (fun y hy => (d2 y hy).1) (fun y hy => (d3 y hy).1)
  unfold runF
  simp only [List.foldl_cons, List.foldl_nil, stepR, e2, line_check _ (pwI 64 x) m (pwI 64 k) (sealA x k m) (by omega) (by omega) (by omega) (by omega)]
  have s1 : okSeal (pwI 64 x) m (pwI 64 k) (sealA x k m) = true := by
    unfold okSeal
    rw [key_in (by omega) hx.2, key_in (by omega) hk.2, om]
    show okAns _ = true
    unfold okAns
    exact decide_eq_true b3
  have s2 : chkE (pwI 64 x) m (pwI 64 k) (sealA x k m) = 0 := by unfold chkE; rw [s1]; rfl
  have s3 : chkB (pwI 64 x) m (pwI 64 k) (sealA x k m) = true := by unfold chkB; rw [s1, seal_right x k m ox ok_]; rfl
  rw [s2, s3]
  rfl
end

end Go.Proofs.YtegiffdlfpdbkaaGreatDoor
