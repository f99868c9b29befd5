/- A session in plain words: the lines of a text, what each is answered, and all answers. -/
import Derived.Test.YtegiffdlfpdbkaaGreatDoorRows
import Derived.Test.YtegiffdlfpdbkaaGreatDoorNum
import Derived.Test.YtegiffdlfpdbkaaGreatDoorBase
import Derived.Test.YtegiffdlfpdbkaaGreatDoorImg
import Derived.Test.YtegiffdlfpdbkaaGreatDoorImg2
import Derived.Test.YtegiffdlfpdbkaaGreatDoorNumP
import Derived.Test.YtegiffdlfpdbkaaGreatDoorCntP
import Derived.Test.YtegiffdlfpdbkaaGreatDoorRefNum
namespace Go.Proofs.YtegiffdlfpdbkaaGreatDoor
open Go.RowKit
set_option maxRecDepth 100000
set_option linter.unusedVariables false
set_option linter.unusedSimpArgs false

abbrev wExtend : ByteArray := { data := #[101, 120, 116, 101, 110, 100] }
abbrev wDigest : ByteArray := { data := #[100, 105, 103, 101, 115, 116] }
abbrev wMeasure : ByteArray := { data := #[109, 101, 97, 115, 117, 114, 101] }
abbrev wRaise : ByteArray := { data := #[114, 97, 105, 115, 101] }
abbrev wMay : ByteArray := { data := #[109, 97, 121] }
abbrev wPublic : ByteArray := { data := #[112, 117, 98, 108, 105, 99] }
abbrev wSign : ByteArray := { data := #[115, 105, 103, 110] }
abbrev wCheck : ByteArray := { data := #[99, 104, 101, 99, 107] }
abbrev tBad : ByteArray := { data := #[98, 97, 100] }
abbrev tYes : ByteArray := { data := #[121, 101, 115] }
abbrev tNo : ByteArray := { data := #[110, 111] }
abbrev tOk : ByteArray := { data := #[111, 107] }
abbrev tNl : ByteArray := { data := #[10] }
abbrev tSp : ByteArray := { data := #[32] }
abbrev tNil : ByteArray := { data := #[] }
/-- The name of a fault. -/
def errN (e : Int) : ByteArray :=
  if e = 0 then { data := #[79, 75] }
  else if e = 1 then { data := #[69, 114, 114, 82, 97, 110, 103, 101] }
  else if e = 2 then { data := #[69, 114, 114, 83, 121, 110, 116, 97, 120] }
  else if e = 3 then { data := #[69, 114, 114, 83, 104, 97, 112, 101] }
  else if e = 4 then { data := #[69, 114, 114, 70, 117, 108, 108] }
  else if e = 5 then { data := #[69, 114, 114, 78, 111, 110, 101] }
  else if e = 6 then { data := #[69, 114, 114, 83, 116, 97, 116, 101] }
  else if e = 7 then { data := #[69, 114, 114, 67, 108, 97, 115, 104] }
  else if e = 8 then { data := #[69, 114, 114, 83, 101, 97, 108] }
  else if e = 9 then { data := #[69, 114, 114, 79, 108, 100] }
  else { data := #[69, 114, 114, 110, 111] }
/-- A desk: counts, and a bank. -/
structure Dsk where
  cnt : List Cnt
  bank : List Int
def dsk0 : Dsk := { cnt := [], bank := [0, 0, 0, 0, 0, 0, 0, 0] }
structure DskOK (d : Dsk) : Prop where
  cnt : d.cnt.length ≤ 12
  len : d.bank.length = 8
  ok : d.bank.all okM = true
theorem dsk0_ok : DskOK dsk0 := ⟨by decide, rfl, by decide⟩
def sayI (n e : Int) : ByteArray := if e = 0 then itoaS n else errN e
def sayB (b : Bool) (e : Int) : ByteArray := if e = 0 then (if b then tYes else tNo) else errN e
/-- How many words behind the first (-1: it is none). -/
def wantN (w : ByteArray) : Int :=
  if w = wExtend then 2 else if w = wDigest then 1 else if w = wMeasure then 1 else if w = wRaise then 2 else if w = wMay then 2
  else if w = wPublic then 1 else if w = wSign then 3 else if w = wCheck then 4 else -1
def isNamed (w : ByteArray) : Bool := decide (w = wMeasure) || (decide (w = wRaise) || decide (w = wMay))
/-- Numbers of words, if each is one. -/
def numsOf : List ByteArray → Option (List Int)
  | [] => some []
  | s :: r => if (numK 7 s).2 = true then (numsOf r).map ((numK 7 s).1 :: ·) else none
def namedR (d : Dsk) (w nm : ByteArray) (ns : List Int) : ByteArray × Dsk :=
  if w = wRaise then (sayB (raiseB d.cnt nm (ns.getD 0 0)) (raiseE d.cnt nm (ns.getD 0 0)), { d with cnt := raiseL d.cnt nm (ns.getD 0 0) })
  else if w = wMay then (if mayL d.cnt nm (ns.getD 0 0) = 0 then tOk else errN (mayL d.cnt nm (ns.getD 0 0)), d)
  else (sayI (ofM nm.data.toList) (ofE nm.data.toList), d)
def plainR (d : Dsk) (w : ByteArray) (ns : List Int) : ByteArray × Dsk :=
  if w = wExtend then
    (if extE d.bank (ns.getD 0 0) (ns.getD 1 0) = 0 then (itoaS ((extB d.bank (ns.getD 0 0) (ns.getD 1 0)).getD (ns.getD 0 0).toNat 0), { d with bank := extB d.bank (ns.getD 0 0) (ns.getD 1 0) })
    else (errN (extE d.bank (ns.getD 0 0) (ns.getD 1 0)), d))
  else if w = wDigest then (sayI (digM d.bank (ns.getD 0 0)) (digE d.bank (ns.getD 0 0)), d)
  else if w = wPublic then (sayI (pubM (ns.getD 0 0)) (pubE (ns.getD 0 0)), d)
  else if w = wSign then
    (if sgE (ns.getD 0 0) (ns.getD 1 0) (ns.getD 2 0) = 0 then itoaS (sgP (ns.getD 0 0) (ns.getD 1 0) (ns.getD 2 0)) ++ tSp ++ itoaS (sgA (ns.getD 0 0) (ns.getD 1 0) (ns.getD 2 0)) else errN (sgE (ns.getD 0 0) (ns.getD 1 0) (ns.getD 2 0)), d)
  else (sayB (chkB (ns.getD 0 0) (ns.getD 1 0) (ns.getD 2 0) (ns.getD 3 0)) (chkE (ns.getD 0 0) (ns.getD 1 0) (ns.getD 2 0) (ns.getD 3 0)), d)
/-- What a line of these words is answered, and the desk behind it. -/
def lineR (d : Dsk) (ws : List ByteArray) : ByteArray × Dsk :=
  if (ws.length : Int) - 1 = wantN (ws.getD 0 tNil) then
    (if isNamed (ws.getD 0 tNil) = true then
      (match numsOf (ws.drop 2) with
      | some ns => if (ws.getD 1 tNil).size = 0 then (tBad, d) else namedR d (ws.getD 0 tNil) (ws.getD 1 tNil) ns
      | none => (tBad, d))
    else (match numsOf (ws.drop 1) with
      | some ns => plainR d (ws.getD 0 tNil) ns
      | none => (tBad, d)))
  else (tBad, d)
theorem numsOf_len : ∀ {ws : List ByteArray} {ns : List Int}, numsOf ws = some ns → ns.length = ws.length
  | [], ns, h => by injection h with h; subst h; rfl
  | s :: r, ns, h => by
    unfold numsOf at h
    split at h
    · cases hr : numsOf r with
      | none => rw [hr] at h; cases h
      | some ms =>
        rw [hr] at h
        injection h with h
        subst h
        rw [List.length_cons, List.length_cons, numsOf_len hr]
    · cases h
theorem extB_ok {b : List Int} {i m : Int} (hl : b.length = 8) (hb : b.all okM = true) (h : extE b i m = 0) : (extB b i m).length = 8 ∧ (extB b i m).all okM = true := by
  unfold extE at h
  cases ho : extOk b i m
  · rw [ho] at h; exact absurd h (by decide)
  · unfold extB
    rw [ho, if_pos rfl]
    refine ⟨by rw [List.length_set]; exact hl, ?_⟩
    rw [List.all_eq_true] at hb ⊢
    intro x hx
    rcases List.mem_or_eq_of_mem_set hx with h1 | rfl
    · exact hb x h1
    · exact pairM_ok _ _
theorem lineR_ok {d : Dsk} (h : DskOK d) (ws : List ByteArray) : DskOK (lineR d ws).2 := by
  have named : ∀ w nm ns, DskOK (namedR d w nm ns).2 := fun w nm ns => by
    unfold namedR
    split
    · exact ⟨raiseL_len _ _ h.cnt, h.len, h.ok⟩
    · split <;> exact h
  have plain : ∀ w ns, DskOK (plainR d w ns).2 := fun w ns => by
    unfold plainR
    split
    · split
      · rename_i he
        obtain ⟨h1, h2⟩ := extB_ok h.len h.ok he
        exact ⟨h.cnt, h1, h2⟩
      · exact h
    · split
      · exact h
      · split
        · exact h
        · split <;> exact h
  unfold lineR
  split
  · split
    · split
      · split
        · exact h
        · exact named _ _ _
      · exact h
    · split
      · exact plain _ _
      · exact h
  · exact h

end Go.Proofs.YtegiffdlfpdbkaaGreatDoor
