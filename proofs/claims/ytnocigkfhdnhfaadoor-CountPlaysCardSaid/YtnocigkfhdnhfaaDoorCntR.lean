/- The reference's Counts: a list of names, and numbers, behind a pointer. -/
import Derived.Test.YtnocigkfhdnhfaaDoorRows
import Derived.Test.YtnocigkfhdnhfaaDoorNum
import Derived.Test.YtnocigkfhdnhfaaDoorBase
import Derived.Test.YtnocigkfhdnhfaaDoorAppC
import Derived.Test.YtnocigkfhdnhfaaDoorFoot
import Derived.Test.YtnocigkfhdnhfaaDoorFootC
import Derived.Test.YtnocigkfhdnhfaaDoorImg
import Derived.Test.YtnocigkfhdnhfaaDoorRefI
import Derived.WalkKit
import Derived.WalkSpells
import Derived.WalkLawsBesides
import Derived.Lib.Hide
import Derived.Deep.DeepCutAuto
namespace Go.Proofs.YtnocigkfhdnhfaaDoor
open Go.RowKit
set_option maxRecDepth 100000
set_option linter.unusedSimpArgs false
set_option linter.unusedVariables false

abbrev Cnt := ByteArray × Int
def noCnt : Cnt := (⟨#[]⟩, 0)
def cntCells (ls : List Cnt) : List Value := ls.flatMap fun e => [.string e.1, .int .i64 e.2]
theorem cntCells_len (ls : List Cnt) : (cntCells ls).length = ls.length * 2 := by
  induction ls with
  | nil => rfl
  | cons e es ih => unfold cntCells at *; rw [List.flatMap_cons, List.length_append, ih]; simp; omega
theorem cntCells_append (es fs : List Cnt) : cntCells (es ++ fs) = cntCells es ++ cntCells fs := by unfold cntCells; rw [List.flatMap_append]
theorem cntCells_one (es : List Cnt) : ∀ u ∈ cntCells es, u.oneCell' = true := fun u hu => by
  unfold cntCells at hu
  obtain ⟨e, _, h⟩ := List.mem_flatMap.1 hu
  simp only [List.mem_cons, List.not_mem_nil, or_false] at h
  rcases h with rfl | rfl <;> rfl
theorem cntCells_at : ∀ (es : List Cnt) (i : Nat), i < es.length → (cntCells es)[i * 2]? = some (.string (es.getD i noCnt).1) ∧ (cntCells es)[i * 2 + 1]? = some (.int .i64 (es.getD i noCnt).2)
  | e :: es, 0, _ => ⟨rfl, rfl⟩
  | e :: es, i + 1, h => by
    have ih := cntCells_at es i (by simpa using h)
    have e1 : (i + 1) * 2 = i * 2 + 2 := by omega
    have e2 : (i + 1) * 2 + 1 = i * 2 + 1 + 2 := by omega
    have e3 : cntCells (e :: es) = .string e.1 :: .int .i64 e.2 :: cntCells es := by unfold cntCells; rw [List.flatMap_cons]; rfl
    rw [e2, e1, e3]
    simpa using ih
theorem cntCells_set : ∀ (es : List Cnt) (i : Nat) (x : Int), i < es.length → cntCells (es.set i ((es.getD i noCnt).1, x)) = (cntCells es).set (i * 2 + 1) (.int .i64 x)
  | a :: es, 0, x, _ => rfl
  | a :: es, i + 1, x, h => by
    have ih := cntCells_set es i x (by simpa using h)
    have e2 : (i + 1) * 2 + 1 = i * 2 + 1 + 2 := by omega
    have e3 : ∀ (a : Cnt) es, cntCells (a :: es) = .string a.1 :: .int .i64 a.2 :: cntCells es := fun a es => by unfold cntCells; rw [List.flatMap_cons]; rfl
    have e4 : (a :: es).getD (i + 1) noCnt = es.getD i noCnt := by simp
    rw [e2, e4, List.set_cons_succ, e3, e3, List.set_cons_succ, List.set_cons_succ, ih]

def hasL : List Cnt → List UInt8 → Bool
  | [], _ => false
  | e :: r, t => e.1.data.toList == t || hasL r t
def ofL : List Cnt → List UInt8 → Int
  | [], _ => 0
  | e :: r, t => if e.1.data.toList = t then e.2 else ofL r t
def setL : List Cnt → List UInt8 → Int → List Cnt
  | [], _, _ => []
  | e :: r, t, x => if e.1.data.toList = t then (e.1, x) :: r else e :: setL r t x
theorem ofL_next {ls : List Cnt} {k : Nat} {t : List UInt8} (h : k < ls.length) (hk : (ls.getD k noCnt).1.data.toList ≠ t) : ofL (ls.drop k) t = ofL (ls.drop (k + 1)) t := by
  rw [drop_cons ls noCnt k h]
  show (if (ls.getD k noCnt).1.data.toList = t then _ else _) = _
  rw [if_neg hk]
theorem ofL_hit {ls : List Cnt} {k : Nat} {t : List UInt8} (h : k < ls.length) (hk : (ls.getD k noCnt).1.data.toList = t) : ofL (ls.drop k) t = (ls.getD k noCnt).2 := by
  rw [drop_cons ls noCnt k h]
  show (if (ls.getD k noCnt).1.data.toList = t then _ else _) = _
  rw [if_pos hk]
theorem ofL_end {ls : List Cnt} {k : Nat} {t : List UInt8} (h : ls.length ≤ k) : ofL (ls.drop k) t = 0 := by rw [List.drop_eq_nil_of_le h]; rfl
theorem hasL_next {ls : List Cnt} {k : Nat} {t : List UInt8} (h : k < ls.length) (hk : (ls.getD k noCnt).1.data.toList ≠ t) : hasL (ls.drop k) t = hasL (ls.drop (k + 1)) t := by
  rw [drop_cons ls noCnt k h]
  show ((ls.getD k noCnt).1.data.toList == t || _) = _
  rw [show ((ls.getD k noCnt).1.data.toList == t) = false by simpa using hk]; rfl
theorem hasL_hit {ls : List Cnt} {k : Nat} {t : List UInt8} (h : k < ls.length) (hk : (ls.getD k noCnt).1.data.toList = t) : hasL (ls.drop k) t = true := by
  rw [drop_cons ls noCnt k h]
  show ((ls.getD k noCnt).1.data.toList == t || _) = _
  rw [show ((ls.getD k noCnt).1.data.toList == t) = true by simpa using hk]; rfl
theorem hasL_end {ls : List Cnt} {k : Nat} {t : List UInt8} (h : ls.length ≤ k) : hasL (ls.drop k) t = false := by rw [List.drop_eq_nil_of_le h]; rfl
theorem setL_hit : ∀ {ls : List Cnt} {k : Nat} {t : List UInt8} {x : Int}, (∀ i, i < k → (ls.getD i noCnt).1.data.toList ≠ t) → k < ls.length → (ls.getD k noCnt).1.data.toList = t → setL ls t x = ls.set k ((ls.getD k noCnt).1, x)
  | e :: r, 0, t, x, _, _, h => by
    show (if e.1.data.toList = t then (e.1, x) :: r else _) = _
    have h' : e.1.data.toList = t := h
    rw [if_pos h']; rfl
  | e :: r, k + 1, t, x, h0, hk, h => by
    show (if e.1.data.toList = t then _ else e :: setL r t x) = _
    have h' : e.1.data.toList ≠ t := h0 0 (by omega)
    rw [if_neg h', setL_hit (k := k) (fun i hi => by have := h0 (i + 1) (by omega); simpa using this) (by simpa using hk) (by simpa using h)]
    simp
theorem setL_len : ∀ (ls : List Cnt) (t : List UInt8) (x : Int), (setL ls t x).length = ls.length
  | [], _, _ => rfl
  | e :: r, t, x => by
    show (if e.1.data.toList = t then (e.1, x) :: r else e :: setL r t x).length = _
    split
    · rfl
    · simp [setL_len r t x]
theorem hasL_app (ls : List Cnt) (s : ByteArray) (x : Int) : (hasL (ls ++ [(s, x)])) = fun t => t == s.data.toList || hasL ls t := by
  funext t
  induction ls with
  | nil =>
    show (s.data.toList == t || false) = (t == s.data.toList || false)
    rw [BEq.comm]
  | cons e r ih =>
    show (e.1.data.toList == t || hasL (r ++ [(s, x)]) t) = (t == s.data.toList || (e.1.data.toList == t || hasL r t))
    rw [ih]
    cases (e.1.data.toList == t) <;> cases (t == s.data.toList) <;> rfl
theorem ofL_app (ls : List Cnt) (s : ByteArray) (x : Int) (h : hasL ls s.data.toList = false) : (ofL (ls ++ [(s, x)])) = fun t => if t = s.data.toList then x else ofL ls t := by
  funext t
  induction ls with
  | nil =>
    show (if s.data.toList = t then x else 0) = (if t = s.data.toList then x else 0)
    by_cases e : t = s.data.toList
    · rw [if_pos e, if_pos e.symm]
    · rw [if_neg e, if_neg (fun q => e q.symm)]
  | cons e r ih =>
    have h2 : (e.1.data.toList == s.data.toList || hasL r s.data.toList) = false := h
    simp only [Bool.or_eq_false_iff] at h2
    show (if e.1.data.toList = t then e.2 else ofL (r ++ [(s, x)]) t) = (if t = s.data.toList then x else if e.1.data.toList = t then e.2 else ofL r t)
    rw [ih h2.2]
    by_cases q : e.1.data.toList = t
    · have : t ≠ s.data.toList := fun q2 => by have := h2.1; rw [q, q2] at this; simp at this
      rw [if_pos q, if_neg this, if_pos q]
    · rw [if_neg q, if_neg q]
theorem hasL_set : ∀ (ls : List Cnt) (s : List UInt8) (x : Int), hasL ls s = true → hasL (setL ls s x) = fun t => t == s || hasL ls t
  | e :: r, s, x, h => by
    funext t
    show hasL (if e.1.data.toList = s then (e.1, x) :: r else e :: setL r s x) t = (t == s || (e.1.data.toList == t || hasL r t))
    by_cases q : e.1.data.toList = s
    · rw [if_pos q]
      show (e.1.data.toList == t || hasL r t) = _
      rw [q, BEq.comm]
      cases (t == s) <;> rfl
    · rw [if_neg q]
      have h2 : (e.1.data.toList == s || hasL r s) = true := h
      rw [show (e.1.data.toList == s) = false by simpa using q, Bool.false_or] at h2
      show (e.1.data.toList == t || hasL (setL r s x) t) = _
      rw [hasL_set r s x h2]
      show (e.1.data.toList == t || (t == s || hasL r t)) = (t == s || (e.1.data.toList == t || hasL r t))
      cases (e.1.data.toList == t) <;> cases (t == s) <;> rfl
theorem ofL_set : ∀ (ls : List Cnt) (s : List UInt8) (x : Int), hasL ls s = true → ofL (setL ls s x) = fun t => if t = s then x else ofL ls t
  | e :: r, s, x, h => by
    funext t
    show ofL (if e.1.data.toList = s then (e.1, x) :: r else e :: setL r s x) t = (if t = s then x else if e.1.data.toList = t then e.2 else ofL r t)
    by_cases q : e.1.data.toList = s
    · rw [if_pos q]
      show (if e.1.data.toList = t then x else ofL r t) = _
      by_cases q2 : t = s
      · rw [if_pos q2, if_pos (q.trans q2.symm)]
      · have : e.1.data.toList ≠ t := fun q3 => q2 (q3.symm.trans q)
        rw [if_neg q2, if_neg this, if_neg this]
    · rw [if_neg q]
      have h2 : (e.1.data.toList == s || hasL r s) = true := h
      rw [show (e.1.data.toList == s) = false by simpa using q, Bool.false_or] at h2
      show (if e.1.data.toList = t then e.2 else ofL (setL r s x) t) = _
      rw [ofL_set r s x h2]
      by_cases q2 : e.1.data.toList = t
      · have : t ≠ s := fun q3 => q (q2.trans q3)
        rw [if_pos q2, if_neg this, if_pos q2]
      · rw [if_neg q2, if_neg q2]

def raiseE (ls : List Cnt) (s : ByteArray) (x : Int) : Int := if okName s then (if x < 0 ∨ 1000 < x then 1 else if x ≤ ofL ls s.data.toList then 0 else if hasL ls s.data.toList then 0 else if ls.length < 12 then 0 else 4) else 3
def raiseB (ls : List Cnt) (s : ByteArray) (x : Int) : Bool := if okName s then (if x < 0 ∨ 1000 < x then false else if x ≤ ofL ls s.data.toList then false else if hasL ls s.data.toList then true else if ls.length < 12 then true else false) else false
def raiseL (ls : List Cnt) (s : ByteArray) (x : Int) : List Cnt := if okName s then (if x < 0 ∨ 1000 < x then ls else if x ≤ ofL ls s.data.toList then ls else if hasL ls s.data.toList then setL ls s.data.toList x else if ls.length < 12 then ls ++ [(s, x)] else ls) else ls
def mayL (ls : List Cnt) (s : ByteArray) (x : Int) : Int := if okName s then (if x < 1 ∨ 1000 < x then 1 else if x < ofL ls s.data.toList then 9 else 0) else 3
theorem raiseL_len {ls : List Cnt} (s : ByteArray) (x : Int) (h : ls.length ≤ 12) : (raiseL ls s x).length ≤ 12 := by
  unfold raiseL
  split
  · split
    · exact h
    · split
      · exact h
      · split
        · rw [setL_len]; exact h
        · split
          · simp; omega
          · exact h
  · exact h

/-- The reference's Counts at g. -/
def RCnt (w : World) (g : Nat) (ls : List Cnt) : Prop :=
  ∃ (A : Option Addr) (c : Nat), Box w g 43 #[.slice A ls.length c] ∧ OwnC w (g + 1) 107 2 A c ls.length (cntCells ls)
theorem RCnt.below {w w' : World} {g : Nat} {ls : List Cnt} (h : RCnt w g ls) (hb : Below w.heap.size w w') : RCnt w' g ls := by
  obtain ⟨A, c, h1, h2⟩ := h
  exact ⟨A, c, h1.below hb, h2.below hb⟩
theorem RCnt.but {S : Nat → Prop} {w w' : World} {g : Nat} {ls : List Cnt} (h : RCnt w g ls) (k : But S w w') (hn : ∀ j, g ≤ j → ¬ S j) : RCnt w' g ls := by
  obtain ⟨A, c, h1, h2⟩ := h
  exact ⟨A, c, h1.but k (hn g (Nat.le_refl _)), h2.but k (fun a ha => hn _ (by have := (h2.at_ a ha).1; omega))⟩
theorem RCnt.lt {w : World} {g : Nat} {ls : List Cnt} (h : RCnt w g ls) : g < w.heap.size := by
  obtain ⟨A, c, h1, h2⟩ := h
  exact h1.lt

set_option maxHeartbeats 2000000 in
theorem rOf_any (g : Nat) (ls : List Cnt) (s : ByteArray) (w : World) (h : RCnt w g ls) (hl : ls.length ≤ 12) :
    Calls Tryd.prog 24 #[.pointer (some ⟨g, 0, none⟩), .string s] w fun e w' => e = .returned (.int .i64 (ofL ls s.data.toList)) ∧ w = w' := by
  obtain ⟨A, c, h1, h2⟩ := h
  have HO := Lib.hid h2
  have cB := h1.cell
  have lB := h1.lt
  clear h1 h2
  go_enter Tryd.func24, Tryd.ntmps24
  go_wp2_with fail
  go_loop [5] (fun i => ∃ k : Nat, k ≤ ls.length ∧ i = .int .i64 k ∧ Hid (ofL ls s.data.toList = ofL (ls.drop k) s.data.toList)) (fun i => ls.length - (intOf i).toNat)
  case atStart => exact ⟨0, Nat.zero_le _, rfl, Lib.hid rfl⟩
  case round =>
    obtain ⟨k, hk, rfl, HF⟩ := hrel
    by_cases hlt : k < ls.length
    · have g0 : (k : Int) < (ls.length : Int) := by omega
      obtain ⟨a1, a2⟩ := cntCells_at ls k hlt
      obtain ⟨b1, o1, rfl, lb1, c1⟩ := HO.out.cells _ _ a1
      obtain ⟨b2, o2, e2, lb2, c2⟩ := HO.out.cells _ _ a2
      injection e2 with e2
      injection e2 with qa qb
      subst qa
      subst qb
      have ez := HO.out.zero_off _ rfl
      injection ez with _ ez
      subst ez
      have hnx := ofL_next (ls := ls) (t := s.data.toList) hlt
      have hht := ofL_hit (ls := ls) (t := s.data.toList) hlt
      obtain ⟨⟨nm, x⟩, hz⟩ : ∃ z, ls.getD k noCnt = z := ⟨_, rfl⟩
      rw [hz] at c1 c2 hnx hht
      simp only [Nat.zero_add] at c1 c2 hnx hht
      clear hz a1 a2
      by_cases hq : nm.data.toList = s.data.toList
      · have t : (nm.toList == s.toList) = true := by rw [ByteArray.toList_eq, ByteArray.toList_eq, hq]; simp
        have HR := Lib.hid (HF.out.trans (hht hq))
        clear hnx hht hq
        go_wp2_with fail
        go_ret
        exact ⟨by rw [HR.out]; rfl, rfl⟩
      · have t : (nm.toList == s.toList) = false := by rw [ByteArray.toList_eq, ByteArray.toList_eq]; simpa using hq
        have HR := Lib.hid (HF.out.trans (hnx hq))
        clear hnx hht hq
        go_wp2_with fail
        go_round
        case rel => exact ⟨k + 1, by omega, by go_num, HR⟩
        case measure => simp [intOf]; omega
    · have g0 : ¬ (k : Int) < (ls.length : Int) := by omega
      have HR := Lib.hid (HF.out.trans (ofL_end (by omega)))
      go_wp2_with fail
      go_ret
      exact ⟨by rw [HR.out]; rfl, rfl⟩

set_option maxHeartbeats 2000000 in
theorem rMay_any (g : Nat) (ls : List Cnt) (s : ByteArray) (x : Int) (w : World) (h : RCnt w g ls) (hs : s.size ≤ 9000000000000000000) (hl : ls.length ≤ 12) :
    Calls Tryd.prog 21 #[.pointer (some ⟨g, 0, none⟩), .string s, .int .i64 x] w fun e w' => e = .returned (.int .i64 (mayL ls s x)) ∧ w = w' := by
  have HO := Lib.hid (rOf_any g ls s w h hl)
  cases hn : okName s
  · have HE : Hid (mayL ls s x = 3) := Lib.hid (by unfold mayL; rw [hn]; rfl)
    go_enter Tryd.func21, Tryd.ntmps21
    go_wp2_with (go_at_call 23; refine (rName_any s _ hs).mono ?_; rintro e w1 ⟨rfl, rfl⟩; rw [hn])
    go_ret
    exact ⟨by rw [HE.out]; rfl, rfl⟩
  · obtain ⟨V, hV⟩ : ∃ V, ofL ls s.data.toList = V := ⟨_, rfl⟩
    rw [hV] at HO
    by_cases h1 : x < 1
    · have HE : Hid (mayL ls s x = 1) := Lib.hid (by unfold mayL; rw [hn, if_pos rfl, if_pos (Or.inl h1)])
      go_enter Tryd.func21, Tryd.ntmps21
      go_wp2_with (go_at_call 23; refine (rName_any s _ hs).mono ?_; rintro e w1 ⟨rfl, rfl⟩; rw [hn])
      go_ret
      exact ⟨by rw [HE.out]; rfl, rfl⟩
    · by_cases h2 : 1000 < x
      · have HE : Hid (mayL ls s x = 1) := Lib.hid (by unfold mayL; rw [hn, if_pos rfl, if_pos (Or.inr h2)])
        go_enter Tryd.func21, Tryd.ntmps21
        go_wp2_with (go_at_call 23; refine (rName_any s _ hs).mono ?_; rintro e w1 ⟨rfl, rfl⟩; rw [hn])
        go_ret
        exact ⟨by rw [HE.out]; rfl, rfl⟩
      · by_cases h3 : x < V
        · have HE : Hid (mayL ls s x = 9) := Lib.hid (by unfold mayL; rw [hn, if_pos rfl, if_neg (by omega), hV, if_pos h3])
          go_enter Tryd.func21, Tryd.ntmps21
          go_wp2_with (first | (go_at_call 23; refine (rName_any s _ hs).mono ?_; rintro e w1 ⟨rfl, rfl⟩; rw [hn]) | (go_at_call 24; refine HO.out.mono ?_; rintro e w1 ⟨rfl, rfl⟩))
          go_ret
          exact ⟨by rw [HE.out]; rfl, rfl⟩
        · have HE : Hid (mayL ls s x = 0) := Lib.hid (by unfold mayL; rw [hn, if_pos rfl, if_neg (by omega), hV, if_neg h3])
          go_enter Tryd.func21, Tryd.ntmps21
          go_wp2_with (first | (go_at_call 23; refine (rName_any s _ hs).mono ?_; rintro e w1 ⟨rfl, rfl⟩; rw [hn]) | (go_at_call 24; refine HO.out.mono ?_; rintro e w1 ⟨rfl, rfl⟩))
          go_ret
          exact ⟨by rw [HE.out]; rfl, rfl⟩

theorem OwnC.farP {w : World} {base : Nat} {e : TypeId} {size : Nat} {A : Option Addr} {c n : Nat} {cs : List Value} (h : OwnC w base e size A c n cs) {p : Addr} (hp : p.block < base) (u : Value) : OwnC (w.setCell p u) base e size A c n cs := by
  refine ⟨h.1, ?_⟩
  rcases h.2 with h2 | ⟨g, cap, cur, hv, hg, hh, r⟩
  · exact Or.inl h2
  · exact Or.inr ⟨g, cap, cur, hv, hg, (Below.heap_setCell w p u g (by omega)).trans hh, r⟩
theorem infoLeast : (Tryd.prog.info? 107).map (fun i => (i.zero, i.size, i.bytes)) = some (some (.agg #[.string ⟨#[]⟩, .int .i64 0]), 2, 24) := by kernel_rfl
theorem OwnC.frz {w : World} {base : Nat} {e : TypeId} {size : Nat} {b : Nat} {c n : Nat} {cs : List Value} (h : OwnC w base e size (some ⟨b, 0, none⟩) c n cs) : ∀ i, w.frozen? ⟨b, i, none⟩ = false := fun i => by
  rcases h.2 with ⟨h2, _⟩ | ⟨g, cap, cur, hv, _, hh, _⟩
  · cases h2
  · injection hv with hv _ _
    injection hv with hv
    injection hv with hv
    subst hv
    simp [World.frozen?, hh]

def RaisePost (g : Nat) (ls : List Cnt) (s : ByteArray) (x : Int) (w : World) (e : Ending) (w' : World) : Prop :=
  e = .returned (.tuple #[.bool (raiseB ls s x), .int .i64 (raiseE ls s x)]) ∧ RCnt w' g (raiseL ls s x) ∧ Below g w w'

set_option maxHeartbeats 4000000 in
theorem rRaise_any (g : Nat) (ls : List Cnt) (s : ByteArray) (x : Int) (w : World) (h : RCnt w g ls) (hs : s.size ≤ 9000000000000000000) (hl : ls.length ≤ 12) :
    Calls Tryd.prog 22 #[.pointer (some ⟨g, 0, none⟩), .string s, .int .i64 x] w (RaisePost g ls s x w) := by
  have HO := Lib.hid (rOf_any g ls s w h hl)
  cases hn : okName s
  · have HE : Hid (raiseE ls s x = 3 ∧ raiseB ls s x = false ∧ raiseL ls s x = ls) := Lib.hid (by unfold raiseE raiseB raiseL; rw [hn]; exact ⟨rfl, rfl, rfl⟩)
    have HR := Lib.hid h
    clear h
    go_enter Tryd.func22, Tryd.ntmps22
    go_wp2_with (go_at_call 23; refine (rName_any s _ hs).mono ?_; rintro e w1 ⟨rfl, rfl⟩; rw [hn])
    go_ret2
    exact ⟨by rw [HE.out.1, HE.out.2.1]; rfl, by rw [HE.out.2.2]; exact HR.out, Below.refl _ _⟩
  by_cases hx : x < 0 ∨ 1000 < x
  · have HE : Hid (raiseE ls s x = 1 ∧ raiseB ls s x = false ∧ raiseL ls s x = ls) := Lib.hid (by unfold raiseE raiseB raiseL; rw [hn, if_pos rfl, if_pos hx, if_pos rfl, if_pos hx, if_pos rfl, if_pos hx]; exact ⟨rfl, rfl, rfl⟩)
    have HR := Lib.hid h
    clear h
    by_cases h1 : x < 0
    · go_enter Tryd.func22, Tryd.ntmps22
      go_wp2_with (go_at_call 23; refine (rName_any s _ hs).mono ?_; rintro e w1 ⟨rfl, rfl⟩; rw [hn])
      go_ret2
      exact ⟨by rw [HE.out.1, HE.out.2.1]; rfl, by rw [HE.out.2.2]; exact HR.out, Below.refl _ _⟩
    · have h2 : 1000 < x := by omega
      go_enter Tryd.func22, Tryd.ntmps22
      go_wp2_with (go_at_call 23; refine (rName_any s _ hs).mono ?_; rintro e w1 ⟨rfl, rfl⟩; rw [hn])
      go_ret2
      exact ⟨by rw [HE.out.1, HE.out.2.1]; rfl, by rw [HE.out.2.2]; exact HR.out, Below.refl _ _⟩
  have h1 : ¬ x < 0 := by omega
  have h2 : ¬ 1000 < x := by omega
  obtain ⟨V, hV⟩ : ∃ V, ofL ls s.data.toList = V := ⟨_, rfl⟩
  rw [hV] at HO
  by_cases h3 : x ≤ V
  · have HE : Hid (raiseE ls s x = 0 ∧ raiseB ls s x = false ∧ raiseL ls s x = ls) := Lib.hid (by unfold raiseE raiseB raiseL; simp [hn, hx, hV, h3])
    have HR := Lib.hid h
    clear h hV hx
    go_enter Tryd.func22, Tryd.ntmps22
    go_wp2_with (first | (go_at_call 23; refine (rName_any s _ hs).mono ?_; rintro e w1 ⟨rfl, rfl⟩; rw [hn]) | (go_at_call 24; refine HO.out.mono ?_; rintro e w1 ⟨rfl, rfl⟩))
    go_ret2
    exact ⟨by rw [HE.out.1, HE.out.2.1]; rfl, by rw [HE.out.2.2]; exact HR.out, Below.refl _ _⟩
  have HL : Hid (raiseE ls s x = (if hasL ls s.data.toList then 0 else if ls.length < 12 then 0 else 4) ∧ raiseB ls s x = (if hasL ls s.data.toList then true else if ls.length < 12 then true else false) ∧ raiseL ls s x = (if hasL ls s.data.toList then setL ls s.data.toList x else if ls.length < 12 then ls ++ [(s, x)] else ls)) := Lib.hid (by
    unfold raiseE raiseB raiseL; simp [hn, hx, hV, h3])
  obtain ⟨A, c, hb1, hb2⟩ := h
  have HOW := Lib.hid hb2
  have HBX := Lib.hid hb1
  have cB := hb1.cell
  have lB := hb1.lt
  have fB := hb1.frozen
  clear hb1 hb2 hV hx
  go_enter Tryd.func22, Tryd.ntmps22
  go_wp2_with (first | (go_at_call 23; refine (rName_any s _ hs).mono ?_; rintro e w1 ⟨rfl, rfl⟩; rw [hn]) | (go_at_call 24; refine HO.out.mono ?_; rintro e w1 ⟨rfl, rfl⟩))
  go_loop [9] (fun i => ∃ k : Nat, k ≤ ls.length ∧ i = .int .i64 k ∧ Hid (∀ j, j < k → (ls.getD j noCnt).1.data.toList ≠ s.data.toList) ∧ Hid (hasL ls s.data.toList = hasL (ls.drop k) s.data.toList)) (fun i => ls.length - (intOf i).toNat)
  case atStart => exact ⟨0, Nat.zero_le _, rfl, Lib.hid (fun j hj => absurd hj (by omega)), Lib.hid rfl⟩
  case round =>
    obtain ⟨k, hk, rfl, HF, HH⟩ := hrel
    by_cases hlt : k < ls.length
    · have g0 : (k : Int) < (ls.length : Int) := by omega
      obtain ⟨a1, a2⟩ := cntCells_at ls k hlt
      obtain ⟨b1, o1, rfl, lb1, c1⟩ := HOW.out.cells _ _ a1
      obtain ⟨b2, o2, e2, lb2, c2⟩ := HOW.out.cells _ _ a2
      injection e2 with e2
      injection e2 with qa qb
      subst qa
      subst qb
      have ez := HOW.out.zero_off _ rfl
      injection ez with _ ez
      subst ez
      have f1 := HOW.out.frz
      have hhn := hasL_next (ls := ls) (t := s.data.toList) hlt
      have hhh := hasL_hit (ls := ls) (t := s.data.toList) hlt
      have hst := setL_hit (ls := ls) (t := s.data.toList) (x := x) HF.out hlt
      have hcs := cntCells_set ls k x hlt
      obtain ⟨⟨nm, y⟩, hz⟩ : ∃ z, ls.getD k noCnt = z := ⟨_, rfl⟩
      have HZ := Lib.hid hz
      rw [hz] at c1 c2 hhn hhh hst hcs
      simp only [Nat.zero_add] at c1 c2 hhn hhh hst hcs
      clear hz a1 a2
      by_cases hq : nm.data.toList = s.data.toList
      · have t : (nm.toList == s.toList) = true := by rw [ByteArray.toList_eq, ByteArray.toList_eq, hq]; simp
        have HST := Lib.hid (hst hq)
        have HCS := Lib.hid hcs
        have HHS : Hid (hasL ls s.data.toList = true) := Lib.hid (HH.out.trans (hhh hq))
        have hgb : g ≠ b1 := by have := (HOW.out.at_ _ rfl).1; simp at this; omega
        have hgb' : g ≤ b1 := by have := (HOW.out.at_ _ rfl).1; simp at this; omega
        clear hhn hhh hst hcs hq
        go_wp2_with fail
        go_ret2
        refine ⟨by rw [HL.out.1, HL.out.2.1, HHS.out]; rfl, ?_, (Below.refl _ _).setCell hgb' _⟩
        rw [HL.out.2.2, HHS.out, if_pos rfl, HST.out]
        refine ⟨some ⟨b1, 0, none⟩, c, ?_, ?_⟩
        · rw [List.length_set]
          exact HBX.out.far (p := ⟨b1, k * 2 + 1, none⟩) hgb _
        · have h := (World.ownsRow.stored HOW.out (k * 2 + 1) (.int .i64 x)).1
          rw [← HCS.out] at h
          unfold OwnC
          rw [List.length_set]
          exact h
      · have t : (nm.toList == s.toList) = false := by rw [ByteArray.toList_eq, ByteArray.toList_eq]; simpa using hq
        have HF2 : Hid (∀ j, j < k + 1 → (ls.getD j noCnt).1.data.toList ≠ s.data.toList) := Lib.hid (fun j hj => by
          rcases Nat.lt_or_ge j k with h | h
          · exact HF.out j h
          · obtain rfl : j = k := by omega
            rw [HZ.out]; exact hq)
        have HH2 := Lib.hid (HH.out.trans (hhn hq))
        clear hhn hhh hst hcs hq
        go_wp2_with fail
        go_round
        case rel => exact ⟨k + 1, by omega, by go_num, HF2, HH2⟩
        case measure => simp [intOf]; omega
    · have g0 : ¬ (k : Int) < (ls.length : Int) := by omega
      have HHS : Hid (hasL ls s.data.toList = false) := Lib.hid (HH.out.trans (hasL_end (by omega)))
      by_cases h12 : ls.length < 12
      · have g1 : ¬ (12 : Int) ≤ (ls.length : Int) := by omega
        have hCA : CellsAt (w.alloc (.cells #[.string s, .int .i64 x] 107)) (some ⟨w.heap.size, 0, none⟩) (cntCells [(s, x)]) := CellsAt.new_ w 107 (cntCells [(s, x)]) (0, 0)
        have HCA := Lib.hid hCA
        have B5 := HBX.out.alloc_ (.cells #[.string s, .int .i64 x] 107)
        have HB5 := Lib.hid B5
        clear hCA
        go_upto_region 16 with fail
        go_wp2_with (at_builtin; refine app_cells rfl _ _ 41 107 rfl Tryd.underlying41 infoLeast (by decide) (by decide) (g + 1) A c ls.length (cntCells ls) rfl (HOW.out.below (grow_alloc (grow_refl _) _)) (some ⟨w.heap.size, 0, none⟩) 1 1 (cntCells [(s, x)]) rfl HCA.out (by simp [cntCells]) (cntCells_one _) (by omega) (by omega) (by simp; omega) ?_; intro A2 c2 k2 w4 hk2 ho2 hb4; have hB4 := HB5.out.belowB hb4 (by omega); have cB4 := hB4.cell; have lB4 := hB4.lt; have fB4 := hB4.frozen)
        go_ret2
        refine ⟨by rw [HL.out.1, HL.out.2.1, HHS.out, if_pos h12, if_pos h12]; rfl, ?_, ?_⟩
        · rw [HL.out.2.2, HHS.out, if_neg (by decide), if_pos h12]
          obtain rfl : k2 = ls.length + 1 := hk2.out
          refine ⟨A2, c2, ?_, ?_⟩
          · rw [List.length_append]
            have h := hB4.set_ 0 (.slice A2 (ls.length + 1) c2)
            exact h
          · rw [List.length_append, cntCells_append]
            exact OwnC.farP ho2 (p := ⟨g, 0, none⟩) (by show g < g + 1; omega) _
        · have h1 : Below g w (w.alloc (.cells #[.string s, .int .i64 x] 107)) := (Below.refl g w).alloc (by omega) _
          exact (h1.trans (hb4.mono (by omega))).setCell (p := ⟨g, 0, none⟩) (Nat.le_refl _) _
      · have g1 : (12 : Int) ≤ (ls.length : Int) := by omega
        go_wp2_with fail
        go_ret2
        refine ⟨by rw [HL.out.1, HL.out.2.1, HHS.out, if_neg h12, if_neg h12]; rfl, ?_, Below.refl _ _⟩
        rw [HL.out.2.2, HHS.out, if_neg (by decide), if_neg h12]
        exact ⟨A, c, HBX.out, HOW.out⟩

end Go.Proofs.YtnocigkfhdnhfaaDoor
