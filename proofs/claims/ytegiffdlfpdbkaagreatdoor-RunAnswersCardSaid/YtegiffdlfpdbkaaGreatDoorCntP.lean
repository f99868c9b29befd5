/- Lists of names, and numbers, in plain words: what is least, raised, may be. -/
import Derived.Test.YtegiffdlfpdbkaaGreatDoorRows
import Derived.Test.YtegiffdlfpdbkaaGreatDoorNum
import Derived.Test.YtegiffdlfpdbkaaGreatDoorBase
import Derived.Test.YtegiffdlfpdbkaaGreatDoorImg
namespace Go.Proofs.YtegiffdlfpdbkaaGreatDoor
open Go.RowKit
set_option maxRecDepth 100000

abbrev Cnt := ByteArray × Int
def noCnt : Cnt := (⟨#[]⟩, 0)
def cntCells (ls : List Cnt) : List Value := ls.flatMap fun e => [.string e.1, .int .i64 e.2]
theorem cntCells_len (ls : List Cnt) : (cntCells ls).length = ls.length * 2 := by
  induction ls with
  | nil => rfl
  | cons e es ih => unfold cntCells at *; rw [List.flatMap_cons, List.length_append, ih]; simp; omega
theorem cntCells_append (es fs : List Cnt) : cntCells (es ++ fs) = cntCells es ++ cntCells fs := by unfold cntCells; rw [List.flatMap_append]
theorem cntCells_one (es : List Cnt) : ∀ u ∈ cntCells es, u.oneCell' = true := fun u hu => by
  unfold cntCells at hu
  obtain ⟨e, _, h⟩ := List.mem_flatMap.1 hu
  simp only [List.mem_cons, List.not_mem_nil, or_false] at h
  rcases h with rfl | rfl <;> rfl
theorem cntCells_at : ∀ (es : List Cnt) (i : Nat), i < es.length → (cntCells es)[i * 2]? = some (.string (es.getD i noCnt).1) ∧ (cntCells es)[i * 2 + 1]? = some (.int .i64 (es.getD i noCnt).2)
  | e :: es, 0, _ => ⟨rfl, rfl⟩
  | e :: es, i + 1, h => by
    have ih := cntCells_at es i (by simpa using h)
    have e1 : (i + 1) * 2 = i * 2 + 2 := by omega
    have e2 : (i + 1) * 2 + 1 = i * 2 + 1 + 2 := by omega
    have e3 : cntCells (e :: es) = .string e.1 :: .int .i64 e.2 :: cntCells es := by unfold cntCells; rw [List.flatMap_cons]; rfl
    rw [e2, e1, e3]
    simpa using ih
theorem cntCells_set : ∀ (es : List Cnt) (i : Nat) (x : Int), i < es.length → cntCells (es.set i ((es.getD i noCnt).1, x)) = (cntCells es).set (i * 2 + 1) (.int .i64 x)
  | a :: es, 0, x, _ => rfl
  | a :: es, i + 1, x, h => by
    have ih := cntCells_set es i x (by simpa using h)
    have e2 : (i + 1) * 2 + 1 = i * 2 + 1 + 2 := by omega
    have e3 : ∀ (a : Cnt) es, cntCells (a :: es) = .string a.1 :: .int .i64 a.2 :: cntCells es := fun a es => by unfold cntCells; rw [List.flatMap_cons]; rfl
    have e4 : (a :: es).getD (i + 1) noCnt = es.getD i noCnt := by simp
    rw [e2, e4, List.set_cons_succ, e3, e3, List.set_cons_succ, List.set_cons_succ, ih]

def hasL : List Cnt → List UInt8 → Bool
  | [], _ => false
  | e :: r, t => e.1.data.toList == t || hasL r t
def ofL : List Cnt → List UInt8 → Int
  | [], _ => 0
  | e :: r, t => if e.1.data.toList = t then e.2 else ofL r t
def setL : List Cnt → List UInt8 → Int → List Cnt
  | [], _, _ => []
  | e :: r, t, x => if e.1.data.toList = t then (e.1, x) :: r else e :: setL r t x
theorem ofL_next {ls : List Cnt} {k : Nat} {t : List UInt8} (h : k < ls.length) (hk : (ls.getD k noCnt).1.data.toList ≠ t) : ofL (ls.drop k) t = ofL (ls.drop (k + 1)) t := by
  rw [drop_cons ls noCnt k h]
  show (if (ls.getD k noCnt).1.data.toList = t then _ else _) = _
  rw [if_neg hk]
theorem ofL_hit {ls : List Cnt} {k : Nat} {t : List UInt8} (h : k < ls.length) (hk : (ls.getD k noCnt).1.data.toList = t) : ofL (ls.drop k) t = (ls.getD k noCnt).2 := by
  rw [drop_cons ls noCnt k h]
  show (if (ls.getD k noCnt).1.data.toList = t then _ else _) = _
  rw [if_pos hk]
theorem ofL_end {ls : List Cnt} {k : Nat} {t : List UInt8} (h : ls.length ≤ k) : ofL (ls.drop k) t = 0 := by rw [List.drop_eq_nil_of_le h]; rfl
theorem hasL_next {ls : List Cnt} {k : Nat} {t : List UInt8} (h : k < ls.length) (hk : (ls.getD k noCnt).1.data.toList ≠ t) : hasL (ls.drop k) t = hasL (ls.drop (k + 1)) t := by
  rw [drop_cons ls noCnt k h]
  show ((ls.getD k noCnt).1.data.toList == t || _) = _
  rw [show ((ls.getD k noCnt).1.data.toList == t) = false by simpa using hk]; rfl
theorem hasL_hit {ls : List Cnt} {k : Nat} {t : List UInt8} (h : k < ls.length) (hk : (ls.getD k noCnt).1.data.toList = t) : hasL (ls.drop k) t = true := by
  rw [drop_cons ls noCnt k h]
  show ((ls.getD k noCnt).1.data.toList == t || _) = _
  rw [show ((ls.getD k noCnt).1.data.toList == t) = true by simpa using hk]; rfl
theorem hasL_end {ls : List Cnt} {k : Nat} {t : List UInt8} (h : ls.length ≤ k) : hasL (ls.drop k) t = false := by rw [List.drop_eq_nil_of_le h]; rfl
theorem setL_hit : ∀ {ls : List Cnt} {k : Nat} {t : List UInt8} {x : Int}, (∀ i, i < k → (ls.getD i noCnt).1.data.toList ≠ t) → k < ls.length → (ls.getD k noCnt).1.data.toList = t → setL ls t x = ls.set k ((ls.getD k noCnt).1, x)
  | e :: r, 0, t, x, _, _, h => by
    show (if e.1.data.toList = t then (e.1, x) :: r else _) = _
    have h' : e.1.data.toList = t := h
    rw [if_pos h']; rfl
  | e :: r, k + 1, t, x, h0, hk, h => by
    show (if e.1.data.toList = t then _ else e :: setL r t x) = _
    have h' : e.1.data.toList ≠ t := h0 0 (by omega)
    rw [if_neg h', setL_hit (k := k) (fun i hi => by have := h0 (i + 1) (by omega); simpa using this) (by simpa using hk) (by simpa using h)]
    simp
theorem setL_len : ∀ (ls : List Cnt) (t : List UInt8) (x : Int), (setL ls t x).length = ls.length
  | [], _, _ => rfl
  | e :: r, t, x => by
    show (if e.1.data.toList = t then (e.1, x) :: r else e :: setL r t x).length = _
    split
    · rfl
    · simp [setL_len r t x]
theorem hasL_app (ls : List Cnt) (s : ByteArray) (x : Int) : (hasL (ls ++ [(s, x)])) = fun t => t == s.data.toList || hasL ls t := by
  funext t
  induction ls with
  | nil =>
    show (s.data.toList == t || false) = (t == s.data.toList || false)
    rw [BEq.comm]
  | cons e r ih =>
    show (e.1.data.toList == t || hasL (r ++ [(s, x)]) t) = (t == s.data.toList || (e.1.data.toList == t || hasL r t))
    rw [ih]
    cases (e.1.data.toList == t) <;> cases (t == s.data.toList) <;> rfl
theorem ofL_app (ls : List Cnt) (s : ByteArray) (x : Int) (h : hasL ls s.data.toList = false) : (ofL (ls ++ [(s, x)])) = fun t => if t = s.data.toList then x else ofL ls t := by
  funext t
  induction ls with
  | nil =>
    show (if s.data.toList = t then x else 0) = (if t = s.data.toList then x else 0)
    by_cases e : t = s.data.toList
    · rw [if_pos e, if_pos e.symm]
    · rw [if_neg e, if_neg (fun q => e q.symm)]
  | cons e r ih =>
    have h2 : (e.1.data.toList == s.data.toList || hasL r s.data.toList) = false := h
    simp only [Bool.or_eq_false_iff] at h2
    show (if e.1.data.toList = t then e.2 else ofL (r ++ [(s, x)]) t) = (if t = s.data.toList then x else if e.1.data.toList = t then e.2 else ofL r t)
    rw [ih h2.2]
    by_cases q : e.1.data.toList = t
    · have : t ≠ s.data.toList := fun q2 => by have := h2.1; rw [q, q2] at this; simp at this
      rw [if_pos q, if_neg this, if_pos q]
    · rw [if_neg q, if_neg q]
theorem hasL_set : ∀ (ls : List Cnt) (s : List UInt8) (x : Int), hasL ls s = true → hasL (setL ls s x) = fun t => t == s || hasL ls t
  | e :: r, s, x, h => by
    funext t
    show hasL (if e.1.data.toList = s then (e.1, x) :: r else e :: setL r s x) t = (t == s || (e.1.data.toList == t || hasL r t))
    by_cases q : e.1.data.toList = s
    · rw [if_pos q]
      show (e.1.data.toList == t || hasL r t) = _
      rw [q, BEq.comm]
      cases (t == s) <;> rfl
    · rw [if_neg q]
      have h2 : (e.1.data.toList == s || hasL r s) = true := h
      rw [show (e.1.data.toList == s) = false by simpa using q, Bool.false_or] at h2
      show (e.1.data.toList == t || hasL (setL r s x) t) = _
      rw [hasL_set r s x h2]
      show (e.1.data.toList == t || (t == s || hasL r t)) = (t == s || (e.1.data.toList == t || hasL r t))
      cases (e.1.data.toList == t) <;> cases (t == s) <;> rfl
theorem ofL_set : ∀ (ls : List Cnt) (s : List UInt8) (x : Int), hasL ls s = true → ofL (setL ls s x) = fun t => if t = s then x else ofL ls t
  | e :: r, s, x, h => by
    funext t
    show ofL (if e.1.data.toList = s then (e.1, x) :: r else e :: setL r s x) t = (if t = s then x else if e.1.data.toList = t then e.2 else ofL r t)
    by_cases q : e.1.data.toList = s
    · rw [if_pos q]
      show (if e.1.data.toList = t then x else ofL r t) = _
      by_cases q2 : t = s
      · rw [if_pos q2, if_pos (q.trans q2.symm)]
      · have : e.1.data.toList ≠ t := fun q3 => q2 (q3.symm.trans q)
        rw [if_neg q2, if_neg this, if_neg this]
    · rw [if_neg q]
      have h2 : (e.1.data.toList == s || hasL r s) = true := h
      rw [show (e.1.data.toList == s) = false by simpa using q, Bool.false_or] at h2
      show (if e.1.data.toList = t then e.2 else ofL (setL r s x) t) = _
      rw [ofL_set r s x h2]
      by_cases q2 : e.1.data.toList = t
      · have : t ≠ s := fun q3 => q (q2.trans q3)
        rw [if_pos q2, if_neg this, if_pos q2]
      · rw [if_neg q2, if_neg q2]

def raiseE (ls : List Cnt) (s : ByteArray) (x : Int) : Int := if okName s then (if x < 0 ∨ 1000 < x then 1 else if x ≤ ofL ls s.data.toList then 0 else if hasL ls s.data.toList then 0 else if ls.length < 12 then 0 else 4) else 3
def raiseB (ls : List Cnt) (s : ByteArray) (x : Int) : Bool := if okName s then (if x < 0 ∨ 1000 < x then false else if x ≤ ofL ls s.data.toList then false else if hasL ls s.data.toList then true else if ls.length < 12 then true else false) else false
def raiseL (ls : List Cnt) (s : ByteArray) (x : Int) : List Cnt := if okName s then (if x < 0 ∨ 1000 < x then ls else if x ≤ ofL ls s.data.toList then ls else if hasL ls s.data.toList then setL ls s.data.toList x else if ls.length < 12 then ls ++ [(s, x)] else ls) else ls
def mayL (ls : List Cnt) (s : ByteArray) (x : Int) : Int := if okName s then (if x < 1 ∨ 1000 < x then 1 else if x < ofL ls s.data.toList then 9 else 0) else 3
theorem raiseL_len {ls : List Cnt} (s : ByteArray) (x : Int) (h : ls.length ≤ 12) : (raiseL ls s x).length ≤ 12 := by
  unfold raiseL
  split
  · split
    · exact h
    · split
      · exact h
      · split
        · rw [setL_len]; exact h
        · split
          · simp; omega
          · exact h
  · exact h

end Go.Proofs.YtegiffdlfpdbkaaGreatDoor
