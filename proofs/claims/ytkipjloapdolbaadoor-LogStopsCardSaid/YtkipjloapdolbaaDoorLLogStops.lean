/- LogStops: when it has stopped it has stopped. -/
import Derived.Test.YtkipjloapdolbaaDoorRows
import Derived.Test.YtkipjloapdolbaaDoorOpen
import Derived.Test.YtkipjloapdolbaaDoorNum
import Derived.Test.YtkipjloapdolbaaDoorBase
import Derived.Test.YtkipjloapdolbaaDoorFoot
import Derived.Test.YtkipjloapdolbaaDoorImg
import Derived.Test.YtkipjloapdolbaaDoorCntP
import Derived.Test.YtkipjloapdolbaaDoorTold
import Derived.Test.YtkipjloapdolbaaDoorLogP
import Derived.Test.YtkipjloapdolbaaDoorLogA
import Derived.Test.YtkipjloapdolbaaDoorLogM
import Derived.Test.YtkipjloapdolbaaDoorLogR
import Derived.Test.YtkipjloapdolbaaDoorLogW
import Derived.Test.YtkipjloapdolbaaDoorLogC
import Derived.Test.YtkipjloapdolbaaDoorLogQ
import Derived.Test.YtkipjloapdolbaaDoorLiftT
import Derived.Test.YtkipjloapdolbaaDoorLiftV
import Derived.Test.YtkipjloapdolbaaDoorReadL
import Derived.WalkKit
import Derived.WalkSpells
import Derived.Lib.Hide
import Derived.Deep.RegionHeld3
namespace Go.Proofs.YtkipjloapdolbaaDoor
open Go.ChangeShapes Go.WideShapes Go.ChangeAt Go.RowKit
set_option linter.unusedVariables false
set_option linter.unusedSimpArgs false
set_option maxRecDepth 100000

abbrev osB : ByteArray := { data := #[111, 115] }
/-- The records of a name that was raised one by one. -/
def osR (n : Nat) : List Rec := (List.range n).map (fun (j : Nat) => (osB, (j : Int) + 1))
theorem osR_len (n : Nat) : (osR n).length = n := by simp [osR]
theorem osR_succ (n : Nat) : osR (n + 1) = osR n ++ [(osB, (n : Int) + 1)] := by simp [osR, List.range_succ]
theorem osR_take (n k : Nat) : (osR n).take k = osR (min k n) := by simp [osR, ← List.map_take, List.take_range]
def osC (n : Nat) : List Cnt := if n = 0 then [] else [(osB, (n : Int))]
theorem osOk : okName osB = true := by decide
theorem osC_of (n : Nat) : ofL (osC n) osB.data.toList = n := by
  unfold osC
  split
  · subst n; rfl
  · show (if osB.data.toList = osB.data.toList then _ else _) = _
    rw [if_pos rfl]
theorem osC_raise (n : Nat) (v : Int) (h0 : (n : Int) < v) (h1 : v ≤ 1000) : raiseB (osC n) osB v = true ∧ raiseL (osC n) osB v = [(osB, v)] := by
  have hx : ¬ (v < 0 ∨ 1000 < v) := by omega
  have hn : ¬ v ≤ (n : Int) := by omega
  have ho := osC_of n
  have e : ∀ x : Int, hasL [(osB, x)] osB.data.toList = true := fun x => rfl
  have e2 : ∀ x : Int, setL [(osB, x)] osB.data.toList v = [(osB, v)] := fun x => by
    show (if osB.data.toList = osB.data.toList then (osB, v) :: [] else _) = _
    rw [if_pos rfl]
  constructor
  · unfold raiseB
    rw [osOk, if_pos rfl, if_neg hx, ho, if_neg hn]
    unfold osC
    by_cases h : n = 0
    · rw [if_pos h]; rfl
    · rw [if_neg h, e, if_pos rfl]
  · unfold raiseL
    rw [osOk, if_pos rfl, if_neg hx, ho, if_neg hn]
    unfold osC
    by_cases h : n = 0
    · rw [if_pos h]; rfl
    · rw [if_neg h, e, if_pos rfl, e2]
theorem osR_raised : ∀ n : Nat, n ≤ 900 → raisedL (osR n) = osC n
  | 0, _ => rfl
  | n + 1, h => by
    rw [osR_succ, raisedL_snoc, osR_raised n (by omega)]
    have := (osC_raise n ((n : Int) + 1) (by omega) (by omega)).2
    rw [this]
    unfold osC
    rw [if_neg (by omega)]
    rfl
/-- How a log stands after i of its steps, to stop at step a. -/
def At1 (a i : Nat) (L : Lg) : Prop := (i ≤ a → L.st = false ∧ L.left = (a : Int) - i ∧ L.recs = osR i) ∧ (a < i → L.st = true) ∧ ∃ n, n ≤ 20 ∧ L.recs = osR n
def At2 (a i : Nat) (L : Lg) : Prop := (i ≤ a → L.st = false ∧ L.left = (a : Int) - i) ∧ (a < i → L.st = true) ∧ ∃ n, n ≤ 20 ∧ L.recs = osR n
theorem At1.to2 {a i : Nat} {L : Lg} (h : At1 a i L) : At2 a i L := ⟨fun k => ⟨(h.1 k).1, (h.1 k).2.1⟩, h.2⟩
theorem bad_out (L : Lg) : raiseOut L { data := #[] } 1 = ((false, if L.st then 6 else 3), L) := by
  unfold raiseOut
  cases L.st
  · have e : raiseB (raisedL L.recs) { data := #[] } 1 = false := by
      unfold raiseB
      rw [show okName { data := #[] } = false by decide, if_neg (by decide)]
    have e2 : raiseE (raisedL L.recs) { data := #[] } 1 = 3 := by
      unfold raiseE
      rw [show okName { data := #[] } = false by decide, if_neg (by decide)]
    rw [if_neg (by decide), e, if_neg (by decide), e2]
    rfl
  · rfl
theorem os_out {a i : Nat} {L : Lg} (h : At1 a i L) (ha : a ≤ 20) :
    At1 a (i + 1) (raiseOut L osB ((i : Int) + 1)).2 ∧ (raiseOut L osB ((i : Int) + 1)).1 = (decide (i < a), if i < a then 0 else 6) := by
  obtain ⟨h1, h2, n, hn, hr⟩ := h
  unfold raiseOut
  by_cases hi : i ≤ a
  · obtain ⟨g1, g2, g3⟩ := h1 hi
    have hb := (osC_raise i ((i : Int) + 1) (by omega) (by omega)).1
    rw [g1, if_neg (by decide), g3, osR_raised i (by omega), hb, if_pos rfl, osR_len, if_neg (by omega)]
    by_cases h3 : L.left = 0
    · have : i = a := by omega
      subst this
      rw [if_pos h3, decide_eq_false (by omega), if_neg (by omega)]
      exact ⟨⟨fun h => by omega, fun _ => rfl, i, by omega, rfl⟩, rfl⟩
    · rw [if_neg h3, decide_eq_true (by omega), if_pos (by omega)]
      refine ⟨⟨fun h => ⟨rfl, ?_, (osR_succ i).symm⟩, fun h => by omega, i + 1, by omega, (osR_succ i).symm⟩, rfl⟩
      show max (-1) (L.left - 1) = (a : Int) - (i + 1 : Nat)
      omega
  · rw [h2 (by omega), if_pos rfl, decide_eq_false (by omega), if_neg (by omega)]
    exact ⟨⟨fun h => by omega, fun _ => h2 (by omega), n, hn, hr⟩, rfl⟩
theorem sync_out {a i : Nat} {L : Lg} (h : At2 a i L) :
    At2 a (i + 1) (syncOut L).2 ∧ (syncOut L).1 = if i < a then 0 else 6 := by
  obtain ⟨h1, h2, n, hn, hr⟩ := h
  unfold syncOut
  by_cases hi : i ≤ a
  · obtain ⟨g1, g2⟩ := h1 hi
    rw [g1, if_neg (by decide)]
    by_cases h3 : L.left = 0
    · have : i = a := by omega
      subst this
      rw [if_pos h3, if_neg (by omega)]
      exact ⟨⟨fun h => by omega, fun _ => rfl, n, hn, hr⟩, rfl⟩
    · rw [if_neg h3, if_pos (by omega)]
      refine ⟨⟨fun h => ⟨rfl, ?_⟩, fun h => by omega, n, hn, hr⟩, rfl⟩
      show max (-1) (L.left - 1) = (a : Int) - (i + 1 : Nat)
      omega
  · rw [h2 (by omega), if_pos rfl, if_neg (by omega)]
    exact ⟨⟨fun h => by omega, fun _ => h2 (by omega), n, hn, hr⟩, rfl⟩
theorem stopped_out {L : Lg} (h : L.st = true) (s : ByteArray) (v : Int) : syncOut L = (6, L) ∧ raiseOut L s v = ((false, 6), L) := by
  unfold syncOut raiseOut
  rw [h]
  exact ⟨rfl, rfl⟩
theorem again_out {L : Lg} {n : Nat} (hn : n ≤ 20) (hr : L.recs = osR n) (keep : Int) :
    (raiseOut (crashOut L keep) osB 900).1 = (true, 0) ∧ (syncOut (raiseOut (crashOut L keep) osB 900).2).1 = 0 ∧
    ofL (raisedL (syncOut (raiseOut (crashOut L keep) osB 900).2).2.recs) osB.data.toList = 900 ∧
    ((bytesB (syncOut (raiseOut (crashOut L keep) osB 900).2).2.recs (syncOut (raiseOut (crashOut L keep) osB 900).2).2.half).size : Int) = (syncOut (raiseOut (crashOut L keep) osB 900).2).2.safe := by
  obtain ⟨k, hk⟩ : ∃ k, wholeN L.recs (highOf L keep).toNat = k := ⟨_, rfl⟩
  unfold crashOut
  rw [hk, hr, osR_take]
  have hm : min k n ≤ 20 := by omega
  obtain ⟨q, hq⟩ : ∃ q, min k n = q := ⟨_, rfl⟩
  rw [hq] at hm ⊢
  obtain ⟨hb, hl⟩ := osC_raise q 900 (by omega) (by omega)
  unfold raiseOut
  simp only
  rw [if_neg (by decide), osR_raised q (by omega), hb, if_pos rfl, osR_len, if_neg (by omega), if_neg (by decide)]
  unfold syncOut
  simp only
  rw [if_neg (by decide), if_neg (by decide)]
  refine ⟨(by first | rfl | trivial), (by first | rfl | trivial), ?_, ?_⟩
  · show ofL (raisedL (osR q ++ [(osB, 900)])) _ = _
    rw [raisedL_snoc, osR_raised q (by omega)]
    simp only
    rw [hl]
    rfl
  · exact bytesB_len _

set_option maxHeartbeats 4000000 in
theorem logStops_walk (w : World) (a m k : Int) (ia : I64 a) (im : I64 m) (ik : I64 k) (hsh : w.ShapedOpen Tryd.prog) (hd : TabTD w) :
    Calls Tryd.prog 3 #[.int .i64 a, .int .i64 m, .int .i64 k] w fun e w' => e = .returned (.bool true) ∧ Below w.heap.size w w' := by
  have en := fun k w => err_neq k w
  have ee := fun k w => err_eql k w
  have gn := fun o k w => err_guard_neq o k w
  have ge := fun o k w => err_guard_eql o k w
  have HM : Hid (MaxT w) := Lib.hid (maxLen_cell hsh)
  have HT := Lib.hid hd.1
  have HD := Lib.hid hd.2
  have HK := Lib.hid ik
  clear hsh hd ik
  by_cases hr : a < 0 ∨ 20 < a ∨ m < 0 ∨ 20 < m
  · have HR := Lib.hid hr
    rcases hr with h | h | h | h
    all_goals
      go_enter Tryd.func3, Tryd.ntmps3
      go_wp2_with fail
      all_goals
        go_ret
        first
        | exact ⟨rfl, (by repeat (first | (with_reducible exact grow_refl _) | (with_reducible assumption) | (with_reducible refine grow_alloc ?_ _) | (with_reducible refine grow_set ?_ (by first | exact Nat.le_refl _ | (simp; done) | (simp; omega) | omega) _) | (with_reducible refine grow_drewN ?_ _) | (with_reducible refine grow_drew ?_) | (with_reducible refine grow_step ?_ (by assumption)) | (with_reducible refine grow_base ?_ (by assumption))))⟩
        | (exfalso; have := HR.out; omega)
  obtain ⟨a', rfl⟩ : ∃ a' : Nat, a = a' := ⟨a.toNat, by omega⟩
  obtain ⟨m', rfl⟩ : ∃ m' : Nat, m = m' := ⟨m.toNat, by omega⟩
  have ha : a' ≤ 20 := by omega
  have hm : m' ≤ 20 := by omega
  clear hr ia im
  go_enter Tryd.func3, Tryd.ntmps3
  go_wp2_with fail
  refine (logNew_at w w (Below.refl _ _)).mono ?_
  rintro e w1 ⟨g, rfl, hL, hb1⟩
  have HL := Lib.hid hL
  clear hL hb1
  go_wp2_with fail
  refine (lgFail_at (a' : Int) ⟨by omega, by omega⟩ HL.out).mono ?_
  rintro e w2 ⟨rfl, hL, hk⟩
  have hs0 : At1 a' 0 (failOut lg0 a') := ⟨fun _ => ⟨rfl, by show max (-1) (a' : Int) = (a' : Int) - (0 : Nat); omega, rfl⟩, fun h => by omega, 0, by omega, rfl⟩
  have HL := Lib.hid hL
  have HS := Lib.hid hs0
  clear hL hk hs0
  go_wp2_with fail
  go_loopw [8, 9, 10, 11, 12, 13, 14, 15, 16] (fun s i _ _ _ _ _ _ _ wr => ∃ (j : Nat) (L : Lg), s = .int .i64 j ∧ i = .int .i64 j ∧ j ≤ m' ∧ Hid (At1 a' j L) ∧ Hid (LogAt (fun k => k < w.heap.size ∧ w.heap.size ≤ k) w wr g (62 * j) L)) (fun _ i _ _ _ _ _ _ _ _ => m' - (intOf i).toNat)
  case atStart => exact ⟨0, _, rfl, rfl, by omega, HS, Lib.hid (HL.out.mono (by omega))⟩
  case round =>
    obtain ⟨j, L, rfl, rfl, hj, HS, HL⟩ := hrel
    by_cases hlt : j < m'
    · have t0 : (j : Int) < (m' : Int) := by omega
      have hj20 : j ≤ 19 := by omega
      obtain ⟨hs1, ho1⟩ := os_out HS.out ha
      have hst : L.st = decide (a' < j) := by
        rcases Nat.lt_or_ge a' j with h | h
        · rw [decide_eq_true h]; exact HS.out.2.1 h
        · rw [decide_eq_false (by omega)]; exact (HS.out.1 h).1
      have HB0 := bad_out L
      rw [hst] at HB0
      have HS1 := Lib.hid hs1
      rcases (show (a' < j ∧ ¬ j < a') ∨ (a' = j) ∨ (¬ a' < j ∧ j < a') by omega) with ⟨h1, h2⟩ | h1 | ⟨h1, h2⟩
      · have HE1 : Hid (raiseOut L { data := #[] } 1 = ((false, 6), L)) := Lib.hid (by rw [HB0, decide_eq_true h1]; rfl)
        have HE2 : Hid ((raiseOut L osB ((j : Int) + 1)).1 = (false, 6)) := Lib.hid (by rw [ho1, decide_eq_false h2, if_neg h2])
        have q1 : (a' : Int) < (j : Int) := by omega
        clear hs1 ho1 hst hj HB0 h1 h2
        go_wp2_with fail
        refine (lgRaise_at { data := #[] } 1 HL.out (by decide) (by omega) HT.out HM.out).mono ?_
        rintro e w3 ⟨rfl, hL3, hk3⟩
        rw [HE1.out] at hL3 ⊢
        have HL3 := Lib.hid hL3
        clear hL3 hk3
        go_wp2_with fail
        refine (lgRaise_at osB ((j : Int) + 1) HL3.out (by decide) (by omega) HT.out HM.out).mono ?_
        rintro e w4 ⟨rfl, hL4, hk4⟩
        have HL4 := Lib.hid hL4
        rw [HE2.out]
        clear hL4 hk4
        have hw4 : Below w.heap.size w w4 := HL4.out.bel
        go_wp2_with fail
        refine (error_any _ _ _ (HD.out.below hw4) (by constructor <;> decide)).mono ?_
        rintro e w5 ⟨rfl, hb5⟩
        have hw5 : Below w.heap.size w w5 := grow_step hw4 hb5
        go_wp2_with fail
        refine (error_any _ _ _ (HD.out.below hw5) (by constructor <;> decide)).mono ?_
        rintro e w6 ⟨rfl, hb6⟩
        have hw6 : Below w.heap.size w w6 := grow_step hw5 hb6
        go_wp2_with fail
        refine (error_any _ _ _ (HD.out.below hw6) (by constructor <;> decide)).mono ?_
        rintro e w7 ⟨rfl, hb7⟩
        have HL7 := Lib.hid (((HL4.out.below hb5).below hb6).below hb7)
        clear hw4 hw5 hw6 hb5 hb6 hb7 HL4
        go_wp2_with fail
        go_roundw
        case rel => exact ⟨j + 1, _, rfl, rfl, by omega, HS1, Lib.hid (HL7.out.mono (by omega))⟩
        case measure => simp only [intOf]; omega
      · have HE1 : Hid (raiseOut L { data := #[] } 1 = ((false, 3), L)) := Lib.hid (by rw [HB0, decide_eq_false (by omega)]; rfl)
        have HE2 : Hid ((raiseOut L osB ((j : Int) + 1)).1 = (false, 6)) := Lib.hid (by rw [ho1, decide_eq_false (by omega), if_neg (by omega)])
        have q1 : ((j : Int) == (a' : Int)) = true := by rw [h1]; simp
        have q2 : ¬ (a' : Int) < (j : Int) := by omega
        have q3 : ¬ (j : Int) < (a' : Int) := by omega
        have q4 : (j : Int) ≤ (a' : Int) := by omega
        clear hs1 ho1 hst hj HB0 h1
        go_wp2_with fail
        refine (lgRaise_at { data := #[] } 1 HL.out (by decide) (by omega) HT.out HM.out).mono ?_
        rintro e w3 ⟨rfl, hL3, hk3⟩
        rw [HE1.out] at hL3 ⊢
        have HL3 := Lib.hid hL3
        clear hL3 hk3
        go_wp2_with fail
        refine (lgRaise_at osB ((j : Int) + 1) HL3.out (by decide) (by omega) HT.out HM.out).mono ?_
        rintro e w4 ⟨rfl, hL4, hk4⟩
        have HL4 := Lib.hid hL4
        rw [HE2.out]
        clear hL4 hk4
        have hw4 : Below w.heap.size w w4 := HL4.out.bel
        go_wp2_with fail
        refine (error_any _ _ _ (HD.out.below hw4) (by constructor <;> decide)).mono ?_
        rintro e w5 ⟨rfl, hb5⟩
        have hw5 : Below w.heap.size w w5 := grow_step hw4 hb5
        go_wp2_with fail
        refine (error_any _ _ _ (HD.out.below hw5) (by constructor <;> decide)).mono ?_
        rintro e w6 ⟨rfl, hb6⟩
        have hw6 : Below w.heap.size w w6 := grow_step hw5 hb6
        go_wp2_with fail
        refine (error_any _ _ _ (HD.out.below hw6) (by constructor <;> decide)).mono ?_
        rintro e w7 ⟨rfl, hb7⟩
        have HL7 := Lib.hid (((HL4.out.below hb5).below hb6).below hb7)
        clear hw4 hw5 hw6 hb5 hb6 hb7 HL4
        go_wp2_with fail
        go_roundw
        case rel => exact ⟨j + 1, _, rfl, rfl, by omega, HS1, Lib.hid (HL7.out.mono (by omega))⟩
        case measure => simp only [intOf]; omega
      · have HE1 : Hid (raiseOut L { data := #[] } 1 = ((false, 3), L)) := Lib.hid (by rw [HB0, decide_eq_false h1]; rfl)
        have HE2 : Hid ((raiseOut L osB ((j : Int) + 1)).1 = (true, 0)) := Lib.hid (by rw [ho1, decide_eq_true h2, if_pos h2])
        have q1 : (j : Int) < (a' : Int) := by omega
        clear hs1 ho1 hst hj HB0 h1 h2
        go_wp2_with fail
        refine (lgRaise_at { data := #[] } 1 HL.out (by decide) (by omega) HT.out HM.out).mono ?_
        rintro e w3 ⟨rfl, hL3, hk3⟩
        rw [HE1.out] at hL3 ⊢
        have HL3 := Lib.hid hL3
        clear hL3 hk3
        go_wp2_with fail
        refine (lgRaise_at osB ((j : Int) + 1) HL3.out (by decide) (by omega) HT.out HM.out).mono ?_
        rintro e w4 ⟨rfl, hL4, hk4⟩
        have HL4 := Lib.hid hL4
        rw [HE2.out]
        clear hL4 hk4
        have hw4 : Below w.heap.size w w4 := HL4.out.bel
        go_wp2_with fail
        refine (error_any _ _ _ (HD.out.below hw4) (by constructor <;> decide)).mono ?_
        rintro e w5 ⟨rfl, hb5⟩
        have hw5 : Below w.heap.size w w5 := grow_step hw4 hb5
        go_wp2_with fail
        refine (error_any _ _ _ (HD.out.below hw5) (by constructor <;> decide)).mono ?_
        rintro e w6 ⟨rfl, hb6⟩
        have hw6 : Below w.heap.size w w6 := grow_step hw5 hb6
        go_wp2_with fail
        refine (error_any _ _ _ (HD.out.below hw6) (by constructor <;> decide)).mono ?_
        rintro e w7 ⟨rfl, hb7⟩
        have HL7 := Lib.hid (((HL4.out.below hb5).below hb6).below hb7)
        clear hw4 hw5 hw6 hb5 hb6 hb7 HL4
        go_wp2_with fail
        go_roundw
        case rel => exact ⟨j + 1, _, rfl, rfl, by omega, HS1, Lib.hid (HL7.out.mono (by omega))⟩
        case measure => simp only [intOf]; omega
    · have t0 : ¬ (j : Int) < (m' : Int) := by omega
      have HS2 := Lib.hid (HS.out.to2)
      have HL2 := Lib.hid (HL.out.mono (M := 1240) (by omega))
      have HJ : Hid (j = m') := Lib.hid (by omega)
      clear HS HL hj
      obtain ⟨L0, hL0⟩ : ∃ L0, L0 = L := ⟨_, rfl⟩
      subst hL0
      obtain ⟨v1, hv1⟩ : ∃ v1, v1 = wr := ⟨_, rfl⟩
      subst hv1
      go_wp2_with fail
      go_loopw [8, 17] (fun s _ wr => ∃ (i : Nat) (L : Lg), s = .int .i64 i ∧ Hid (At2 a' i L) ∧ Hid (LogAt (fun k => k < w.heap.size ∧ w.heap.size ≤ k) w wr g 1240 L)) (fun s _ _ => a' + 1 - (intOf s).toNat)
      case atStart => exact ⟨j, _, rfl, HS2, HL2⟩
      case round =>
        obtain ⟨i, L, rfl, HS, HL⟩ := hrel
        rcases (show i < a' ∨ i = a' ∨ a' < i by omega) with h1 | h1 | h1
        · obtain ⟨hs1, ho1⟩ := sync_out HS.out
          rw [if_pos h1] at ho1
          have HS1 := Lib.hid hs1
          have HO1 := Lib.hid ho1
          have q1 : (i : Int) ≤ (a' : Int) := by omega
          have q2 : ((i : Int) == (a' : Int)) = false := by simp; omega
          have H1 := Lib.hid h1
          clear hs1 ho1 h1
          go_wp2_with fail
          refine (lgSync_at HL.out).mono ?_
          rintro e w3 ⟨rfl, hL3, hk3⟩
          rw [HO1.out]
          have HL3 := Lib.hid hL3
          clear hL3 hk3
          go_wp2_with fail
          go_roundw
          case rel => exact ⟨i + 1, _, rfl, HS1, HL3⟩
          case measure => have := H1.out; simp only [intOf]; omega
        · obtain ⟨hs1, ho1⟩ := sync_out HS.out
          rw [if_neg (by omega)] at ho1
          have HS1 := Lib.hid hs1
          have HO1 := Lib.hid ho1
          have q1 : (i : Int) ≤ (a' : Int) := by omega
          have q2 : ((i : Int) == (a' : Int)) = true := by rw [h1]; simp
          have H1 := Lib.hid h1
          clear hs1 ho1 h1
          go_wp2_with fail
          refine (lgSync_at HL.out).mono ?_
          rintro e w3 ⟨rfl, hL3, hk3⟩
          rw [HO1.out]
          have HL3 := Lib.hid hL3
          clear hL3 hk3
          go_wp2_with fail
          go_roundw
          case rel => exact ⟨i + 1, _, rfl, HS1, HL3⟩
          case measure => have := H1.out; simp only [intOf]; omega
        · have q1 : ¬ (i : Int) ≤ (a' : Int) := by omega
          have hst := HS.out.2.1 h1
          obtain ⟨n, hn, hrec⟩ := HS.out.2.2
          have HQ := Lib.hid (stopped_out hst)
          have HA := Lib.hid (again_out hn hrec k)
          clear h1 hst hn hrec
          go_wp2_with fail
          refine (lgSync_at HL.out).mono ?_
          rintro e w3 ⟨rfl, hL3, hk3⟩
          rw [(HQ.out osB 3).1] at hL3 ⊢
          have HL3 := Lib.hid hL3
          clear hL3 hk3
          go_wp2_with fail
          refine (lgRaise_at osB 3 HL3.out (by decide) (by omega) HT.out HM.out).mono ?_
          rintro e w4 ⟨rfl, hL4, hk4⟩
          rw [(HQ.out osB 3).2] at hL4 ⊢
          have HL4 := Lib.hid hL4
          have hw4 : Below w.heap.size w w4 := HL4.out.bel
          clear hL4 hk4
          go_wp2_with fail
          refine (error_any _ _ _ (HD.out.below hw4) (by constructor <;> decide)).mono ?_
          rintro e w5 ⟨rfl, hb5⟩
          have hw5 : Below w.heap.size w w5 := grow_step hw4 hb5
          go_wp2_with fail
          refine (error_any _ _ _ (HD.out.below hw5) (by constructor <;> decide)).mono ?_
          rintro e w6 ⟨rfl, hb6⟩
          have HL6 := Lib.hid ((HL4.out.below hb5).below hb6)
          clear hw4 hw5 hb5 hb6 HL4
          go_wp2_with fail
          refine (lgCrash_at k HK.out HL6.out HM.out).mono ?_
          rintro e w7 ⟨rfl, hL7, hk7⟩
          have HL7 := Lib.hid hL7
          clear hL7 hk7
          go_wp2_with fail
          refine (lgRaise_at osB 900 HL7.out (by decide) (by omega) HT.out HM.out).mono ?_
          rintro e w8 ⟨rfl, hL8, hk8⟩
          rw [HA.out.1]
          have HL8 := Lib.hid hL8
          clear hL8 hk8
          go_wp2_with fail
          refine (lgSync_at HL8.out).mono ?_
          rintro e w9 ⟨rfl, hL9, hk9⟩
          rw [HA.out.2.1]
          have HL9 := Lib.hid hL9
          clear hL9 hk9
          go_wp2_with fail
          refine (lgLeast_at osB HL9.out (by decide)).mono ?_
          rintro e w10 ⟨rfl, hb10⟩
          rw [osOk, if_pos rfl, if_pos rfl, HA.out.2.2.1]
          have HL10 := Lib.hid (HL9.out.below hb10)
          have hw10 : Below w.heap.size w w10 := HL10.out.bel
          clear hb10
          have HZ := HA.out.2.2.2
          obtain ⟨Z, hZ⟩ : ∃ Z : Int, (syncOut (raiseOut (crashOut L k) osB 900).2).2.safe = Z := ⟨_, rfl⟩
          have HSF := Lib.hid (lgSafe_at HL10.out)
          have HBY := Lib.hid (lgBytes_at HL10.out)
          rw [hZ] at HZ HSF
          rw [HZ] at HBY
          clear hZ HZ
          go_wp2_with fail
          refine HSF.out.mono ?_
          rintro e w' ⟨rfl, rfl⟩
          go_wp2_with fail
          refine HBY.out.mono ?_
          rintro e w' ⟨rfl, rfl⟩
          go_wp2_with fail
          go_ret
          exact ⟨by simp, hw10⟩

set_option maxRecDepth 100000 in
theorem logStops_walks (H : Type) (enc : TypeId × Value → H) : WalksD enc Tryd.prog TabTD 3 Tryd.f3 := by
  intro W base args ds p hval hA hlt hsz hsh hdoor
  have hsz0 := hsz
  rw [Tryd.params3] at hA hval
  obtain ⟨v0, vs0, d0, ds0, p0, q0, hargs, rfl, rfl, h0, r0⟩ := trodAll_cons hA
  obtain ⟨v1, vs1, d1, ds1, p1, q1, rfl, rfl, rfl, h1, r1⟩ := trodAll_cons r0
  obtain ⟨v2, vs2, d2, ds2, p2, q2, rfl, rfl, rfl, h2, r2⟩ := trodAll_cons r1
  obtain ⟨rfl, rfl, rfl⟩ := trodAll_nil r2
  obtain rfl : args = #[v0, v1, v2] := by cases args; simp_all
  obtain ⟨a0, rfl, w0⟩ := op_int (hval 0 3 v0 rfl rfl) h0
  obtain ⟨a1, rfl, w1⟩ := op_int (hval 1 3 v1 rfl rfl) h1
  obtain ⟨a2, rfl, w2⟩ := op_int (hval 2 3 v2 rfl rfl) h2
  exact logStops_walk W a0 a1 a2 w0 w1 w2 hsh hdoor

set_option maxRecDepth 100000 in
theorem logStops_lifted (os : Os) (started : os.Started) (H : Type) (enc : TypeId × Value → H) :
    ReturnsInHanded {} Tryd.checked os 3 .any (fun w args => (Rows.logStopsSpec.pre enc Tryd.checked.prog Tryd.f3 [] false w args ∧ laidMetH Tryd.checked.prog LaidTDS w) ∧ sizedMet enc Tryd.checked.prog Tryd.f3 (OpenSpec.ofChange Rows.logStopsSpec) false w args) (Rows.logStopsSpec.post enc Tryd.checked.prog Tryd.f3 false true false false) :=
  returns_of_walkD (C := Tryd.checked) (s := Rows.logStopsSpec) (L := LaidTDS) (D := TabTD) own started (by kernel_rfl) Tryd.func3
    (ChangeSpec.witness_at (enc := enc) (C := Tryd.checked) (os := os) (X := fun w _ => laidMetH Tryd.prog LaidTDS w) false (laidWorldTDS os) #[.int .i64 0, .int .i64 0, .int .i64 0] 8 rfl (by kernel_rfl) (by kernel_rfl) (by kernel_rfl) (by kernel_rfl) (by kernel_rfl) (laidWorldTDS_met os _))
    (fun W h => tabTDS_of_laid h) laidOut (by kernel_rfl) rfl Tryd.underlying4 rfl (fun ds h => by match ds, h with | [_, _, _], _ => rfl) (logStops_walks H enc)

theorem logStops_bare : Rows.LogStopsSaid :=
  OpenClaim.holds_of_wide 3 Tryd.f3 rfl rfl rfl rfl rfl rfl rfl ⟨rfl, rfl, rfl, rfl, rfl⟩ rfl rfl rfl rfl rfl (by kernel_rfl) Tryd.func3 (by kernel_rfl)
    (of_decide_eq_true (by kernel_rfl)) (by unfold Func.isWrapper; rw [if_neg (of_decide_eq_false (by kernel_rfl))]; exact ⟨rfl, rfl⟩)
    (fun os started H enc _ => logStops_lifted os started H enc)

theorem logStops_holds : Rows.LogStopsCardSaid :=
  Claim7.holds_tied_plain_at .later [] [.data, .data, .data, .handle, .sentinel, .sentinel] true Rows.logStopsCard.stood.harness true
    logStops_bare (fun _ h => by cases h) (by kernel_rfl) (fun _ h => by cases h) logStops_row_tie rfl ⟨rfl, rfl⟩ (by kernel_rfl) rfl
    (fun f fn hf hfn => by
      obtain rfl : f = 3 := Option.some.inj ((show Tryd.prog.funcNamed "bootstair/stairlaw3.LogStops" = some 3 by kernel_rfl).symm.trans hf) |>.symm
      obtain rfl : fn = Tryd.f3 := (Option.some.inj (Tryd.func3.symm.trans hfn)).symm
      exact ⟨by kernel_rfl, fun j t ht => by
        have hm : t ∈ Tryd.f3.params.toList := by simpa using Array.mem_of_getElem? ht
        have hall : (Tryd.f3.params.toList.all fun u => !Tryd.prog.wantsStandIn u) = true := by kernel_rfl
        exact (show Tryd.prog.wantsStandIn t = false by simpa using List.all_eq_true.1 hall t hm)⟩)
    (by kernel_rfl)

end Go.Proofs.YtkipjloapdolbaaDoor
