/- run: how many words each word wants: a map. run: a line of a session. run: a line of a session, answered. errors.As at a target of a struct that holds an error: it is one, or it is not. run: what a line is answered with: an error by its name. -/
import Derived.Test.YtegiffdlfpdbkaaGreatDoorRows
import Derived.Test.YtegiffdlfpdbkaaGreatDoorNum
import Derived.Test.YtegiffdlfpdbkaaGreatDoorBase
import Derived.Test.YtegiffdlfpdbkaaGreatDoorApp
import Derived.Test.YtegiffdlfpdbkaaGreatDoorFoot
import Derived.Test.YtegiffdlfpdbkaaGreatDoorMeas
import Derived.Test.YtegiffdlfpdbkaaGreatDoorKey
import Derived.Test.YtegiffdlfpdbkaaGreatDoorBank3
import Derived.Test.YtegiffdlfpdbkaaGreatDoorImg
import Derived.Test.YtegiffdlfpdbkaaGreatDoorImg2
import Derived.Test.YtegiffdlfpdbkaaGreatDoorCount
import Derived.Test.YtegiffdlfpdbkaaGreatDoorCntP
import Derived.Test.YtegiffdlfpdbkaaGreatDoorCntC
import Derived.Test.YtegiffdlfpdbkaaGreatDoorParse
import Derived.Test.YtegiffdlfpdbkaaGreatDoorRefL
import Derived.Test.YtegiffdlfpdbkaaGreatDoorRunP
import Derived.Test.YtegiffdlfpdbkaaGreatDoorRun1
import Derived.Test.YtegiffdlfpdbkaaGreatDoorQuietC
import Derived.Test.YtegiffdlfpdbkaaGreatDoorRun2
import Derived.Test.YtegiffdlfpdbkaaGreatDoorRun3
import Derived.Test.YtegiffdlfpdbkaaGreatDoorRun4
import Derived.Test.YtegiffdlfpdbkaaGreatDoorRun5
import Derived.Test.YtegiffdlfpdbkaaGreatDoorBank
import Derived.Test.YtegiffdlfpdbkaaGreatDoorLiftT
import Derived.WalkKit
import Derived.WalkSpells
import Derived.WalkLawsBesides
import Derived.Lib.Hide
import Derived.BigQuiet
import Derived.Deep.QuietTactic
import Derived.Deep.RegionHeld3
import Derived.Deep.DeepCutAuto
import Derived.Maps.OwnSet
import Derived.Maps.OwnOps
import Derived.Maps.Views
import Derived.OwnWalk
import Derived.StringKeys
import Derived.Test.YtegiffdlfpdbkaaGreatDoorNumP
import Derived.Test.YtegiffdlfpdbkaaGreatDoorRefCut
import Derived.Test.YtegiffdlfpdbkaaGreatDoorRefNum
import Derived.Test.YtegiffdlfpdbkaaGreatDoorRunL
import Derived.Test.YtegiffdlfpdbkaaGreatDoorRunS
import Derived.Test.YtegiffdlfpdbkaaGreatDoorTold
import Derived.LaidEql
import Derived.Stop.Asserts
import Derived.RowKitTokens
namespace Go.Proofs.YtegiffdlfpdbkaaGreatDoor
open Go.RowKit Go.Maps Go.WideMaps
set_option maxRecDepth 100000
set_option linter.unusedVariables false
set_option linter.unusedSimpArgs false

theorem wpList_insert_own {H : Type} {P : Program} (w : World) {ops : Array Oper} {rest : List Oper} {o : Oper} {a : Act} {Q : Exit → Act → World → Prop}
    (hg : o.guard = none) (m x v : Operand) (t : TypeId) (hop : o.op = Op.insert t m x v)
    (k e : TypeId) (K : Keyed P k) (ht : P.underlying t = some (.map k e)) (R : Value → Option (DataW H × List MemPlace)) (b n : Nat) (D : DataW H)
    (hm : a.eval m = .map (some b)) (hown : w.ownsMap P k R b n D) (hn : n < maxLen) (key val : Value) (kl : Lit) (hx : a.eval x = key) (hv : a.eval v = val) (hkey : keyOf P k key = some kl)
    (d : DataW H) (ps : List MemPlace) (hval : R val = some (d, ps))
    (hK : ∀ w', w'.ownsMap P k R b (n + 1) (D.put kl d) → w.grownBy w' (some b) → wpList P ops Q rest (a.put o.dst undef) w') :
    wpList P ops Q (o :: rest) a w := by
  refine wpList_plain hg fun K' hK' => ?_
  obtain ⟨w', hrun, r1, r2⟩ := hown.update K ht hn hkey hval
  unfold Oper.wp
  simp [execOp, hop, hm, hx, hv, hrun, Result.andThen]
  exact hK' _ _ (hK w' r1 r2)

theorem grown_below {w w' : World} {base b : Nat} (hg : w.grownBy w' (some b)) (hb : base ≤ w.heap.size) (hbb : base ≤ b := by omega) : Below base w w' :=
  ⟨hg.os, hg.tape, hg.output, hg.size, fun k hk => hg.block k (by omega) (fun e => by injection e with e; omega)⟩
def strL (s : ByteArray) : Lit := .string s.data.toList
/-- The map of the words. -/
def wantD : DataW Unit := (((((((((.map [] : DataW Unit).put (strL wExtend) (.lit (.int .i64 2))).put (strL wDigest) (.lit (.int .i64 1))).put (strL wMeasure) (.lit (.int .i64 1))).put (strL wRaise) (.lit (.int .i64 2))).put (strL wMay) (.lit (.int .i64 2))).put (strL wPublic) (.lit (.int .i64 1))).put (strL wSign) (.lit (.int .i64 3))).put (strL wCheck) (.lit (.int .i64 4)))
set_option maxHeartbeats 2000000 in
theorem wants_any (w : World) :
    Calls Tryz.prog 46 #[] w fun e w' => e = .returned (.map (some w.heap.size)) ∧ w'.ownsMap Tryz.prog 9 (plainElem Tryz.prog 3) w.heap.size 8 wantD ∧ Below w.heap.size w w' := by
  have hmm := @run_makeMap Tryz.prog
  have k0 := keyOf_string_mk (P := Tryz.prog) Tryz.underlying9 (s := wExtend) (by decide)
  have k1 := keyOf_string_mk (P := Tryz.prog) Tryz.underlying9 (s := wDigest) (by decide)
  have k2 := keyOf_string_mk (P := Tryz.prog) Tryz.underlying9 (s := wMeasure) (by decide)
  have k3 := keyOf_string_mk (P := Tryz.prog) Tryz.underlying9 (s := wRaise) (by decide)
  have k4 := keyOf_string_mk (P := Tryz.prog) Tryz.underlying9 (s := wMay) (by decide)
  have k5 := keyOf_string_mk (P := Tryz.prog) Tryz.underlying9 (s := wPublic) (by decide)
  have k6 := keyOf_string_mk (P := Tryz.prog) Tryz.underlying9 (s := wSign) (by decide)
  have k7 := keyOf_string_mk (P := Tryz.prog) Tryz.underlying9 (s := wCheck) (by decide)
  have O := World.ownsMap_made w Tryz.prog 9 (plainElem Tryz.prog 3 : Value → Option (DataW Unit × List MemPlace))
  have B := grow_alloc (grow_refl w) (.map #[] 0)
  go_enter Tryz.func46, Tryz.ntmps46
  go_upto_region 1 with fail
  go_wp2_with fail
  obtain ⟨v0, hr0, O0, hg0⟩ := O.update (val := .int .i64 2) lawS mapU (by unfold maxLen; omega) k0 (plainElem_int Tryz.underlying3 (WalkArith.wf_i64 (by omega)))
  rw [hr0]
  go_wp2_with fail
  obtain ⟨v1, hr1, O1, hg1⟩ := O0.update (val := .int .i64 1) lawS mapU (by unfold maxLen; omega) k1 (plainElem_int Tryz.underlying3 (WalkArith.wf_i64 (by omega)))
  rw [hr1]
  go_wp2_with fail
  obtain ⟨v2, hr2, O2, hg2⟩ := O1.update (val := .int .i64 1) lawS mapU (by unfold maxLen; omega) k2 (plainElem_int Tryz.underlying3 (WalkArith.wf_i64 (by omega)))
  rw [hr2]
  go_wp2_with fail
  obtain ⟨v3, hr3, O3, hg3⟩ := O2.update (val := .int .i64 2) lawS mapU (by unfold maxLen; omega) k3 (plainElem_int Tryz.underlying3 (WalkArith.wf_i64 (by omega)))
  rw [hr3]
  go_wp2_with fail
  obtain ⟨v4, hr4, O4, hg4⟩ := O3.update (val := .int .i64 2) lawS mapU (by unfold maxLen; omega) k4 (plainElem_int Tryz.underlying3 (WalkArith.wf_i64 (by omega)))
  rw [hr4]
  go_wp2_with fail
  obtain ⟨v5, hr5, O5, hg5⟩ := O4.update (val := .int .i64 1) lawS mapU (by unfold maxLen; omega) k5 (plainElem_int Tryz.underlying3 (WalkArith.wf_i64 (by omega)))
  rw [hr5]
  go_wp2_with fail
  obtain ⟨v6, hr6, O6, hg6⟩ := O5.update (val := .int .i64 3) lawS mapU (by unfold maxLen; omega) k6 (plainElem_int Tryz.underlying3 (WalkArith.wf_i64 (by omega)))
  rw [hr6]
  go_wp2_with fail
  obtain ⟨v7, hr7, O7, hg7⟩ := O6.update (val := .int .i64 4) lawS mapU (by unfold maxLen; omega) k7 (plainElem_int Tryz.underlying3 (WalkArith.wf_i64 (by omega)))
  rw [hr7]
  go_wp2_with fail
  go_ret
  have B0 : Below w.heap.size w v0 := B.trans (grown_below hg0 B.size)
  have B1 : Below w.heap.size w v1 := B0.trans (grown_below hg1 B0.size)
  have B2 : Below w.heap.size w v2 := B1.trans (grown_below hg2 B1.size)
  have B3 : Below w.heap.size w v3 := B2.trans (grown_below hg3 B2.size)
  have B4 : Below w.heap.size w v4 := B3.trans (grown_below hg4 B3.size)
  have B5 : Below w.heap.size w v5 := B4.trans (grown_below hg5 B4.size)
  have B6 : Below w.heap.size w v6 := B5.trans (grown_below hg6 B5.size)
  have B7 : Below w.heap.size w v7 := B6.trans (grown_below hg7 B6.size)
  exact ⟨rfl, O7, B7⟩

theorem want_at (s : ByteArray) : Maps.has wantD (.string s.data.toList) = decide (wantN s ≠ -1) ∧ wantD.atKey (.string s.data.toList) (.lit (.int .i64 0)) = .lit (.int .i64 (if wantN s = -1 then 0 else wantN s)) := by
  have h0 : Rel (.map [] : DataW Unit) (fun _ => false) (fun _ => 0) 0 := ⟨tidy_empty, fun _ => rfl, fun _ => rfl, rfl⟩
  have h8 := ((((((((h0.put wExtend.data.toList 2).put wDigest.data.toList 1).put wMeasure.data.toList 1).put wRaise.data.toList 2).put wMay.data.toList 2).put wPublic.data.toList 1).put wSign.data.toList 3).put wCheck.data.toList 4)
  show Maps.has wantD (.string s.data.toList) = _ ∧ _
  have e : wantD = (((((((((.map [] : DataW Unit).put (.string wExtend.data.toList) (.lit (.int .i64 2))).put (.string wDigest.data.toList) (.lit (.int .i64 1))).put (.string wMeasure.data.toList) (.lit (.int .i64 1))).put (.string wRaise.data.toList) (.lit (.int .i64 2))).put (.string wMay.data.toList) (.lit (.int .i64 2))).put (.string wPublic.data.toList) (.lit (.int .i64 1))).put (.string wSign.data.toList) (.lit (.int .i64 3))).put (.string wCheck.data.toList) (.lit (.int .i64 4))) := rfl
  rw [e]
  by_cases g0 : s = wExtend
  · subst g0
    exact ⟨by rw [h8.has]; decide, by rw [h8.val]; exact congrArg (fun z => DataW.lit (.int .i64 z)) (by decide)⟩
  by_cases g1 : s = wDigest
  · subst g1
    exact ⟨by rw [h8.has]; decide, by rw [h8.val]; exact congrArg (fun z => DataW.lit (.int .i64 z)) (by decide)⟩
  by_cases g2 : s = wMeasure
  · subst g2
    exact ⟨by rw [h8.has]; decide, by rw [h8.val]; exact congrArg (fun z => DataW.lit (.int .i64 z)) (by decide)⟩
  by_cases g3 : s = wRaise
  · subst g3
    exact ⟨by rw [h8.has]; decide, by rw [h8.val]; exact congrArg (fun z => DataW.lit (.int .i64 z)) (by decide)⟩
  by_cases g4 : s = wMay
  · subst g4
    exact ⟨by rw [h8.has]; decide, by rw [h8.val]; exact congrArg (fun z => DataW.lit (.int .i64 z)) (by decide)⟩
  by_cases g5 : s = wPublic
  · subst g5
    exact ⟨by rw [h8.has]; decide, by rw [h8.val]; exact congrArg (fun z => DataW.lit (.int .i64 z)) (by decide)⟩
  by_cases g6 : s = wSign
  · subst g6
    exact ⟨by rw [h8.has]; decide, by rw [h8.val]; exact congrArg (fun z => DataW.lit (.int .i64 z)) (by decide)⟩
  by_cases g7 : s = wCheck
  · subst g7
    exact ⟨by rw [h8.has]; decide, by rw [h8.val]; exact congrArg (fun z => DataW.lit (.int .i64 z)) (by decide)⟩
  have f : ∀ w : ByteArray, s ≠ w → ¬ s.data.toList = w.data.toList := fun w h e => h (bytes_ext e)
  have hw : wantN s = -1 := by unfold wantN; rw [if_neg g0, if_neg g1, if_neg g2, if_neg g3, if_neg g4, if_neg g5, if_neg g6, if_neg g7]
  rw [hw]
  constructor
  · rw [h8.has]
    simp only [beq_eq_false_iff_ne.2 (f _ g0), beq_eq_false_iff_ne.2 (f _ g1), beq_eq_false_iff_ne.2 (f _ g2), beq_eq_false_iff_ne.2 (f _ g3), beq_eq_false_iff_ne.2 (f _ g4), beq_eq_false_iff_ne.2 (f _ g5), beq_eq_false_iff_ne.2 (f _ g6), beq_eq_false_iff_ne.2 (f _ g7), Bool.false_or]
    decide
  · rw [h8.val]
    simp only [if_neg (f _ g0), if_neg (f _ g1), if_neg (f _ g2), if_neg (f _ g3), if_neg (f _ g4), if_neg (f _ g5), if_neg (f _ g6), if_neg (f _ g7)]
    rfl

end Go.Proofs.YtegiffdlfpdbkaaGreatDoor

namespace Go.Proofs.YtegiffdlfpdbkaaGreatDoor
open Go.RowKit Go.Maps Go.WideMaps
set_option maxRecDepth 100000
set_option linter.unusedVariables false
set_option linter.unusedSimpArgs false

/-- A word with numbers. -/
theorem plain_any (w : World) (g b N : Nat) (d : Dsk) (w0 : ByteArray) (A : Option Addr) (c : Nat) (ns : List Int) (h : DeskAt w g b N d) (hA : IntsAt w A ns) (hab : ∀ a, A = some a → a.block ≠ g) (h0 : ∀ i, 0 ≤ ns.getD i 0)
    (hw : (ns.length : Int) = wantN w0) (hn : isNamed w0 = false) (ht : ∀ w', But (fun k => k = g ∨ k = b) w w' → TabT w') :
    Calls Tryz.prog 48 #[.pointer (some ⟨g, 0, none⟩), .string w0, .slice A ns.length c] w (WordPost w g b N (plainR d w0 ns)) := by
  have ht0 := ht w (But.refl _ _)
  have two : ∀ {l : List Int}, l.length = 2 → ∃ x y, l = [x, y] := fun {l} h => by
    match l, h with
    | [x, y], _ => exact ⟨x, y, rfl⟩
  have one : ∀ {l : List Int}, l.length = 1 → ∃ x, l = [x] := fun {l} h => by
    match l, h with
    | [x], _ => exact ⟨x, rfl⟩
  by_cases e1 : w0 = wExtend
  · subst e1
    obtain ⟨x, y, rfl⟩ := two (l := ns) (by have : wantN wExtend = 2 := by decide
                                            omega)
    exact dExt_any w g b N d A c x y h hA hab (h0 0) ht
  by_cases e2 : w0 = wDigest
  · subst e2
    obtain ⟨x, rfl⟩ := one (l := ns) (by have : wantN wDigest = 1 := by decide
                                         omega)
    exact dDig_any w g b N d A c x h hA ht0
  by_cases e3 : w0 = wPublic
  · subst e3
    obtain ⟨x, rfl⟩ := one (l := ns) (by have : wantN wPublic = 1 := by decide
                                         omega)
    exact dPublic_any w g b N d A c x h hA ht0
  by_cases e4 : w0 = wSign
  · subst e4
    exact dSign_any w g b N d A c ns (by have : wantN wSign = 3 := by decide
                                         omega) h hA ht0
  by_cases e5 : w0 = wCheck
  · subst e5
    have h4 : ns.length = 4 := by have : wantN wCheck = 4 := by decide
                                  omega
    obtain ⟨q, m, p, a, rfl⟩ : ∃ q m p a, ns = [q, m, p, a] := by
      match ns, h4 with
      | [q, m, p, a], _ => exact ⟨q, m, p, a, rfl⟩
    exact dCheck_any w g b N d A c q m p a h hA
  exfalso
  unfold isNamed at hn
  simp only [Bool.or_eq_false_iff, decide_eq_false_iff_not] at hn
  obtain ⟨n1, n2, n3⟩ := hn
  have : wantN w0 = -1 := by unfold wantN; rw [if_neg e1, if_neg e2, if_neg n1, if_neg n2, if_neg n3, if_neg e3, if_neg e4, if_neg e5]
  omega

/-- A word with a name. -/
theorem named_any (w : World) (g b N : Nat) (d : Dsk) (w0 nm : ByteArray) (A : Option Addr) (c : Nat) (ns : List Int) (h : DeskAt w g b N d) (hA : IntsAt w A ns) (hab : ∀ a, A = some a → a.block ≠ b) (hz : nm.size ≤ 3000) (hN : N ≤ 900000)
    (hw : (ns.length : Int) + 1 = wantN w0) (hn : isNamed w0 = true) (ht : TabT w) :
    Calls Tryz.prog 49 #[.pointer (some ⟨g, 0, none⟩), .string w0, .string nm, .slice A ns.length c] w (WordPost w g b N (namedR d w0 nm ns)) := by
  have one : ∀ {l : List Int}, l.length = 1 → ∃ x, l = [x] := fun {l} h => by
    match l, h with
    | [x], _ => exact ⟨x, rfl⟩
  by_cases e1 : w0 = wMeasure
  · subst e1
    have h0 : ns.length = 0 := by have : wantN wMeasure = 1 := by decide
                                  omega
    obtain rfl : ns = [] := List.eq_nil_of_length_eq_zero h0
    exact dMeas_any w g b N d nm A c h (by omega) ht
  by_cases e2 : w0 = wRaise
  · subst e2
    obtain ⟨x, rfl⟩ := one (l := ns) (by have : wantN wRaise = 2 := by decide
                                         omega)
    exact dRaise_any w g b N d nm A c x h hA hab (by omega) hN
  by_cases e3 : w0 = wMay
  · subst e3
    obtain ⟨x, rfl⟩ := one (l := ns) (by have : wantN wMay = 2 := by decide
                                         omega)
    exact dMay_any w g b N d nm A c x h hA (by omega)
  exfalso
  unfold isNamed at hn
  rw [decide_eq_false e1, decide_eq_false e2, decide_eq_false e3] at hn
  cases hn

end Go.Proofs.YtegiffdlfpdbkaaGreatDoor

namespace Go.Proofs.YtegiffdlfpdbkaaGreatDoor
open Go.RowKit Go.Maps Go.WideMaps
set_option maxRecDepth 100000
set_option linter.unusedVariables false
set_option linter.unusedSimpArgs false

theorem str_beq2 (a b : ByteArray) : (a.toList == b.data.toList) = decide (a = b) := by
  have h := str_beq a b
  rw [list_bytes b] at h
  exact h
theorem wants_look (s : ByteArray) (w : World) (hs : s.size ≤ 3000) :
    Calls Tryz.prog 46 #[] w fun e w' => e = .returned (.map (some w.heap.size)) ∧ (Instr.lookup 71 (.map (some w.heap.size)) (.string s) true).run Tryz.prog w' = .ok (.tuple #[.int .i64 (if wantN s = -1 then 0 else wantN s), .bool (decide (wantN s ≠ -1))]) w' ∧ Below w.heap.size w w' := by
  refine (wants_any w).mono ?_
  rintro e w' ⟨rfl, hO, hb⟩
  refine ⟨rfl, ?_, hb⟩
  have hkey := keyOf_string_mk (P := Tryz.prog) Tryz.underlying9 (s := s) (by unfold maxLen; omega)
  obtain ⟨v, ps, hrun, hv⟩ := hO.look_ok lawS mapU (zeroI _) (plainElem_int Tryz.underlying3 (by decide)) hkey
  obtain ⟨h1, h2⟩ := want_at s
  obtain ⟨c, rfl, hc, hwc⟩ := plainElem_int_inv Tryz.underlying3 hv
  rw [h1] at hrun
  rw [hrun]
  have e1 : wantD.atKey (.string s.data.toList) (.lit (.int .i64 0)) = .lit (.int .i64 c) := congrArg Prod.fst hc
  rw [h2] at e1
  injection e1 with e1
  injection e1 with _ e1
  rw [e1]

theorem splitRes_below (w : World) (s : ByteArray) : Below w.heap.size w (splitRes w s) := grow_alloc (grow_refl _) _
theorem splitRes_at (w : World) (s : ByteArray) : CellsAt (splitRes w s) (some ⟨w.heap.size, 0, none⟩) (strCells (wordsB s)) := CellsAt.new_ w 9 ((wordsB s).map Value.string) (0, 0)
theorem cells_tail {w : World} {b k : Nat} {cs : List Value} (h : CellsAt w (some ⟨b, 0, none⟩) cs) : CellsAt w (some ⟨b, k, none⟩) (cs.drop k) := fun j u hu => by
  rw [List.getElem?_drop] at hu
  obtain ⟨b1, o1, e, lt, hc⟩ := h (k + j) u hu
  injection e with e
  injection e with e1 e2 _
  subst e1 e2
  refine ⟨b, k, rfl, lt, ?_⟩
  rw [Nat.zero_add] at hc
  exact hc
theorem cells_word {w : World} {b : Nat} {ws : List ByteArray} (h : CellsAt w (some ⟨b, 0, none⟩) (strCells ws)) (k : Nat) (hk : k < ws.length) : b < w.heap.size ∧ w.cell? ⟨b, k, none⟩ = some (.string (ws.getD k tNil)) := by
  obtain ⟨b1, o1, e, lt, hc⟩ := h k (.string (ws.getD k tNil)) (by
    unfold strCells
    rw [List.getElem?_map, List.getElem?_eq_getElem hk, List.getD_eq_getElem?_getD, List.getElem?_eq_getElem hk]; rfl)
  injection e with e
  injection e with e1 e2 _
  subst e1 e2
  rw [Nat.zero_add] at hc
  exact ⟨lt, hc⟩

theorem bad_neq (w : World) : (binOp .neq 50 badV .nilIface).run Tryz.prog w = .ok (.bool true) w := by kernel_rfl
theorem bad_guard (o : Nat) (w : World) : (eqGuard .neq 50 (.tmp o) (.const .nilIface) badV .nilIface).run Tryz.prog w = .ok () w := by kernel_rfl
theorem nil_neq (w : World) : (binOp .neq 50 .nilIface .nilIface).run Tryz.prog w = .ok (.bool false) w := by kernel_rfl
theorem nil_guard (o : Nat) (w : World) : (eqGuard .neq 50 (.tmp o) (.const .nilIface) .nilIface .nilIface).run Tryz.prog w = .ok () w := by kernel_rfl
def LinePost (w : World) (g b N : Nat) (out : ByteArray × Dsk) (e : Ending) (w' : World) : Prop := SaidP out.1 e ∧ DeskAt w' g b (N + 1) out.2 ∧ But (fun k => k = g ∨ k = b) w w'

theorem line_bad {w w' : World} {g b N : Nat} {d : Dsk} {r : ByteArray × Dsk} (hr : r = (tBad, d)) (h : DeskAt w g b N d) (hb : Below w.heap.size w w') : LinePost w g b N r (.returned (.tuple #[.string { data := #[] }, badV])) w' := by
  subst hr
  exact ⟨Or.inr (Or.inr ⟨_, rfl, rfl⟩), (h.below hb).mono (Nat.le_succ N), below_but hb _⟩
theorem line_word {w w1 w' : World} {g b N : Nat} {r : ByteArray × Dsk} {e : Ending} (hb : Below w.heap.size w w1) (h : WordPost w1 g b N r e w') : LinePost w g b N r e w' :=
  ⟨h.1, h.2.1, (below_but hb _).trans h.2.2 (fun _ _ h => h)⟩

set_option maxHeartbeats 4000000 in
theorem line_any (w : World) (g b N : Nat) (d : Dsk) (s : ByteArray) (h : DeskAt w g b N d) (hs : s.size ≤ 3000) (hN : N ≤ 900000) (hE : ∀ w', But (fun k => k = g ∨ k = b) w w' → ReadT w' ∧ UnreadT w') :
    Calls Tryz.prog 33 #[.pointer (some ⟨g, 0, none⟩), .string s] w (LinePost w g b N (lineR d (wordsB s))) := by
  have hgl : g < w.heap.size := h.1.lt
  have hbl : b < w.heap.size := by obtain ⟨_, ⟨n, _, D, a1, _⟩, _⟩ := h; have := a1.lt; omega
  have HE := Lib.hid hE
  have HD := Lib.hid h
  have HS := Lib.hid (split_any s w (by omega) (hE w (But.refl _ _)).1)
  rw [← wlen] at HS
  have hw1 := splitRes_below w s
  have hc1 := splitRes_at w s
  obtain ⟨w1, hw1e⟩ : ∃ w1, splitRes w s = w1 := ⟨_, rfl⟩
  rw [hw1e] at hw1 hc1 HS
  have hwz := fun i hi => word_at s i hi
  obtain ⟨hl1, hl2⟩ := words_le s
  obtain ⟨ws, hws⟩ : ∃ ws, wordsB s = ws := ⟨_, rfl⟩
  rw [hws] at hc1 hwz hl1 hl2 HS ⊢
  obtain ⟨w0, hw0⟩ : ∃ w0, ws.getD 0 tNil = w0 := ⟨_, rfl⟩
  obtain ⟨lh, c0⟩ := cells_word hc1 0 (by omega)
  rw [hw0] at c0
  have hz0 : w0.size ≤ 3000 := by rw [← hw0]; exact Nat.le_trans (hwz 0 (by omega)) hs
  obtain ⟨L, hL⟩ : ∃ L, ws.length = L := ⟨_, rfl⟩
  rw [hL] at HS hl1 hl2
  obtain ⟨hb, hhb⟩ : ∃ hb, w.heap.size = hb := ⟨_, rfl⟩
  rw [hhb] at HS c0 hc1 lh
  have HHB := Lib.hid hhb
  have HW0 := Lib.hid hw0
  have HL := Lib.hid hL
  have HC1 := Lib.hid hc1
  have HWZ := Lib.hid (fun i hi => Nat.le_trans (hwz i hi) hs)
  have HW1 := Lib.hid hw1
  have HLK := Lib.hid (fun w => wants_look w0 w hz0)
  obtain ⟨C, hC⟩ : ∃ C, (if wantN w0 = -1 then 0 else wantN w0) = C := ⟨_, rfl⟩
  obtain ⟨B, hB⟩ : ∃ B, decide (wantN w0 ≠ -1) = B := ⟨_, rfl⟩
  rw [hC, hB] at HLK
  have HBC : Hid ((B = true → C = wantN w0) ∧ (B = false → wantN w0 = -1)) := Lib.hid (by
    rw [← hB, ← hC]
    constructor
    · intro h1
      rw [if_neg (of_decide_eq_true h1)]
    · intro h1
      exact Decidable.not_not.1 (of_decide_eq_false h1))
  have c0d : w1.drew.cell? ⟨hb, 0, none⟩ = some (.string w0) := c0
  have hgL : (0 : Int) < (L : Int) := by omega
  have hgL2 : 0 < L := by omega
  have HLZ := Lib.hid (And.intro (show L ≤ 3001 by omega) hl2)
  clear hw1e hws hC hB hhb hw0 hL hw1 hc1 hwz hs h hE hl1 hl2
  go_enter Tryz.func33, Tryz.ntmps33
  go_wp2_with fail
  refine HS.out.mono ?_
  rintro e w1' ⟨rfl, q1⟩
  obtain rfl : w1 = w1' := q1.symm
  go_upto_region 2 with fail
  have GW := grow_drew (grow_refl w1)
  go_region_held3 (fun w' => w'.cell? ⟨hb, 0, none⟩ = some (.string w0))
    (first
      | exact c0
      | exact c0d
      | exact (GW.cell (p := ⟨hb, 0, none⟩) lh).trans c0
      | (go_keep; done))
    (first
      | (go_at_call 46; refine (HLK.out _).mono ?_; rintro e w5 ⟨rfl, hlook0, hb5⟩; have hlook : (Instr.lookup 71 (.map (some w1.heap.size)) (.string w0) true).run Tryz.prog w5 = .ok (.tuple #[.int .i64 C, .bool B]) w5 := hlook0; have GW := grow_step GW hb5))
  have hW5 : Below w.heap.size w w5 := grow_step HW1.out GW
  have HW5 := Lib.hid hW5
  have HC5 := Lib.hid (HC1.out.below GW)
  have lh5 : hb < w5.heap.size := (cells_word HC5.out 0 (by rw [HL.out]; exact hgL2)).1
  have hu : w5.cell? ⟨0, 0, none⟩ = some (.iface 79 (.int .i64 2)) := (HE.out _ (below_but hW5 _)).2
  have lu := World.block_lt_of_cell? w5 _ hu
  obtain ⟨hlz1, hlz2⟩ := HLZ.out
  have hL1 : (1 : Int) ≤ (L : Int) := by omega
  have hL2 : (L : Int) ≤ 3001 := by omega
  clear hlook hlook0 c0 c0d GW hb5 q1 HS lh
  cases B with
  | false =>
    have HBAD : Hid (lineR d ws = (tBad, d)) := Lib.hid (by unfold lineR; rw [HW0.out, HBC.out.2 rfl, HL.out, if_neg (show ¬ ((L : Int) - 1 = -1) from by omega)])
    go_wp2_with fail
    go_quiet (fail)
    go_wp2_with fail
    go_ret2
    exact line_bad HBAD.out HD.out (grow_drewN HW5.out _)
  | true =>
    have hCw : C = wantN w0 := HBC.out.1 rfl
    have HCW := Lib.hid hCw
    clear hCw
    by_cases hLC : (L : Int) - 1 = C
    rotate_left
    · have HBAD : Hid (lineR d ws = (tBad, d)) := Lib.hid (by unfold lineR; rw [HW0.out, HL.out, ← HCW.out, if_neg hLC])
      have t1 : ((L : Int) - 1 != C) = true := by simpa using hLC
      go_wp2_with fail
      go_quiet (fail)
      go_wp2_with fail
      go_ret2
      exact line_bad HBAD.out HD.out (grow_drewN HW5.out _)
    have t1 : ((L : Int) - 1 != C) = false := by simpa using hLC
    have HLC := Lib.hid hLC
    clear hLC
    obtain ⟨M1, hM1⟩ : ∃ M1, decide (w0 = wMeasure) = M1 := ⟨_, rfl⟩
    obtain ⟨M2, hM2⟩ : ∃ M2, decide (w0 = wRaise) = M2 := ⟨_, rfl⟩
    obtain ⟨M3, hM3⟩ : ∃ M3, decide (w0 = wMay) = M3 := ⟨_, rfl⟩
    have m1 : (w0.toList == [109, 101, 97, 115, 117, 114, 101]) = M1 := by rw [← hM1]; exact str_beq2 w0 wMeasure
    have m2 : (w0.toList == [114, 97, 105, 115, 101]) = M2 := by rw [← hM2]; exact str_beq2 w0 wRaise
    have m3 : (w0.toList == [109, 97, 121]) = M3 := by rw [← hM3]; exact str_beq2 w0 wMay
    have HNM : Hid (isNamed w0 = (M1 || (M2 || M3))) := Lib.hid (by unfold isNamed; rw [hM1, hM2, hM3])
    clear hM1 hM2 hM3
    have hC0 : w5.cell? ⟨hb, 0, none⟩ = some (.string w0) := by have := (cells_word HC5.out 0 (by rw [HL.out]; exact hgL2)).2; rw [HW0.out] at this; exact this
    go_upto_region 5 with fail
    go_cut [9] (fun z wx => z = .bool (isNamed w0) ∧ wx = w5)
    case first =>
      cases M1 <;> cases M2 <;> cases M3 <;>
        (go_wp2_with fail
         go_meet
         exact ⟨by rw [HNM.out]; rfl, rfl⟩)
    case rest =>
      obtain ⟨rfl, q⟩ := hcut
      obtain rfl : w5 = wc := q.symm
      clear m1 m2 m3 q HNM
      have HHG := Lib.hid (And.intro hgl hbl)
      cases hnm : isNamed w0 with
      | false =>
        have HNM := Lib.hid hnm
        have HNUM := Lib.hid (numbers_any (some ⟨hb, 1, none⟩) (L - 1) (ws.drop 1) w5 (by have := cells_tail (k := 1) HC5.out; unfold strCells at this ⊢; rw [List.map_drop]; exact this)
          (fun i hi => by
            rw [List.length_drop] at hi
            have h1 := HWZ.out (1 + i) (by omega)
            rw [List.getD_eq_getElem?_getD, List.getElem?_drop, ← List.getD_eq_getElem?_getD]
            omega)
          (by rw [List.length_drop, HL.out]; omega) (HE.out _ (below_but HW5.out _)).1 (HE.out _ (below_but HW5.out _)).2)
        rw [List.length_drop, HL.out] at HNUM
        unfold NumsPost at HNUM
        have HLR : Hid (lineR d ws = (match numsOf (ws.drop 1) with | some ns => plainR d w0 ns | none => (tBad, d))) := Lib.hid (by
          unfold lineR
          rw [HW0.out, HL.out, if_pos (HLC.out.trans HCW.out), HNM.out, if_neg (by decide)]
          cases numsOf (ws.drop 1) <;> rfl)
        have bn := bad_neq
        have bg := bad_guard
        have nn := nil_neq
        have ng := nil_guard
        have HNL : Hid ((ws.drop 1).length = L - 1) := Lib.hid (by rw [List.length_drop, HL.out])
        obtain ⟨ds, hds⟩ : ∃ ds, ws.drop 1 = ds := ⟨_, rfl⟩
        rw [hds] at HNUM HLR HNL
        have hL2' : 2 ≤ L := by
          have h1 := HLC.out.trans HCW.out
          have h2 : wantN w0 = -1 ∨ 1 ≤ wantN w0 := by unfold wantN; (repeat' split) <;> omega
          omega
        have l1 : ¬ L ≤ 1 := by omega
        have l2 : ¬ L - 1 = 0 := by omega
        have l3 : ¬ L = 1 := by omega
        have l4 : (1 : Int) < (L : Int) := by omega
        have l5 : 1 < L := by omega
        clear hnm hds hL2'
        cases hno : numsOf ds with
        | none =>
          have HNO := Lib.hid hno
          have HBAD : Hid (lineR d ws = (tBad, d)) := Lib.hid (by rw [HLR.out, HNO.out])
          clear hno
          go_wp2_with fail
          refine HNUM.out.mono ?_
          rintro e w6 ⟨_, hn, hb6⟩
          obtain rfl := hn HNO.out
          have hW6 : Below w.heap.size w w6 := grow_step HW5.out hb6
          clear hb6 hn
          go_wp2_with fail
          go_ret2
          exact line_bad HBAD.out HD.out hW6
        | some ns =>
          have HNO := Lib.hid hno
          have HOUT : Hid (lineR d ws = plainR d w0 ns) := Lib.hid (by rw [HLR.out, HNO.out])
          clear hno
          go_wp2_with fail
          refine HNUM.out.mono ?_
          rintro e w6 ⟨hn, _, hb6⟩
          obtain ⟨A, cp, rfl, hA⟩ := hn ns HNO.out
          have hW6 : Below w.heap.size w w6 := grow_step HW5.out hb6
          have c0 := (hb6.cell (p := ⟨hb, 0, none⟩) lh5).trans hC0
          have lh6 := Nat.lt_of_lt_of_le lh5 hb6.size
          have hwl : (ns.length : Int) = wantN w0 := by
            have h1 := numsOf_len HNO.out
            have h2 := HNL.out
            have h3 := HLC.out
            have h4 := HCW.out
            omega
          have HP := Lib.hid (plain_any w6 g b N d w0 A cp ns (HD.out.below hW6) hA.ints (fun a ha => by
              have h1 := hA.2
              rcases h1 with ⟨h2, _⟩ | ⟨g1, cap, cur, hv, hg, _⟩
              · cases h2.symm.trans (by rw [ha])
              · have h3 := HHG.out.1
                have h4 := HW5.out.size
                injection hv with hv
                rw [ha] at hv
                injection hv with hv
                rw [hv]
                show g1 ≠ g
                omega) (fun i => (numsOf_at HNO.out i).1) hwl HNM.out (fun w' hk => (HE.out _ ((below_but hW6 _).trans hk (fun _ _ h => h))).1.1))
          have HW6 := Lib.hid hW6
          clear hb6 hn hA hwl hW6
          go_wp2_with fail
          refine HP.out.mono ?_
          intro e w7 hp
          obtain ⟨s2, x2, rfl, hsd⟩ := said_pair hp.1
          have HP7 := Lib.hid hp
          clear hp hsd
          go_wp2_with fail
          go_ret2
          rw [HOUT.out]
          exact line_word HW6.out HP7.out
      | true =>
        have HNM := Lib.hid hnm
        have hL2' : 2 ≤ L := by
          have h1 := HLC.out.trans HCW.out
          have h2 : wantN w0 = -1 ∨ 1 ≤ wantN w0 := by unfold wantN; (repeat' split) <;> omega
          omega
        have HNUM : Hid (∀ off : Nat, (L = 2 ∨ off = 2) → Calls Tryz.prog 47 #[.slice (some ⟨hb, off, none⟩) (L - 2) (L - 2)] w5 (NumsPost (ws.drop 2) w5)) := Lib.hid (fun off ho => by
          have h1 := numbers_any (some ⟨hb, off, none⟩) (L - 2) (ws.drop 2) w5 (by
              rcases ho with ho | ho
              · rw [List.drop_of_length_le (by rw [HL.out]; omega)]
                intro j u hu
                cases hu
              · subst ho
                have := cells_tail (k := 2) HC5.out; unfold strCells at this ⊢; rw [List.map_drop]; exact this)
            (fun i hi => by
              rw [List.length_drop] at hi
              have h1 := HWZ.out (2 + i) (by omega)
              rw [List.getD_eq_getElem?_getD, List.getElem?_drop, ← List.getD_eq_getElem?_getD]
              omega)
            (by rw [List.length_drop, HL.out]; omega) (HE.out _ (below_but HW5.out _)).1 (HE.out _ (below_but HW5.out _)).2
          rw [List.length_drop, HL.out] at h1
          exact h1)
        unfold NumsPost at HNUM
        obtain ⟨nm, hn1⟩ : ∃ nm, ws.getD 1 tNil = nm := ⟨_, rfl⟩
        have HLR : Hid (lineR d ws = (match numsOf (ws.drop 2) with | some ns => (if nm.size = 0 then (tBad, d) else namedR d w0 nm ns) | none => (tBad, d))) := Lib.hid (by
          unfold lineR
          rw [HW0.out, HL.out, if_pos (HLC.out.trans HCW.out), HNM.out, if_pos rfl, hn1]
          cases numsOf (ws.drop 2) <;> rfl)
        have hC1 : w5.cell? ⟨hb, 1, none⟩ = some (.string nm) := by have := (cells_word HC5.out 1 (by rw [HL.out]; omega)).2; rw [hn1] at this; exact this
        have HNZ : Hid (nm.size ≤ 3000) := Lib.hid (by rw [← hn1]; exact HWZ.out 1 (by rw [HL.out]; omega))
        have bn := bad_neq
        have bg := bad_guard
        have nn := nil_neq
        have ng := nil_guard
        have HNL : Hid ((ws.drop 2).length = L - 2) := Lib.hid (by rw [List.length_drop, HL.out])
        obtain ⟨ds, hds⟩ : ∃ ds, ws.drop 2 = ds := ⟨_, rfl⟩
        rw [hds] at HNUM HLR HNL
        have l4 : (2 : Int) ≤ (L : Int) := by omega
        have l5 : 1 < L := by omega
        have l6 : (1 : Int) < (L : Int) := by omega
        clear hnm hds hn1
        go_upto_region 11 with fail
        go_cut [12, 13] (fun z y wx => (numsOf ds = none ∧ y = badV ∨ ∃ ns A cp, numsOf ds = some ns ∧ z = .slice A ns.length cp ∧ y = .nilIface ∧ OwnI wx w5.heap.size A cp ns) ∧ Below w5.heap.size w5 wx)
        case first =>
          by_cases l2 : L = 2
          · have HL2 := Lib.hid l2
            have HN2 := Lib.hid (fun off => HNUM.out off (Or.inl l2))
            subst l2
            go_wp2_with fail
            refine (HN2.out _).mono ?_
            rintro e w6 ⟨hn1, hn2, hb6⟩
            cases hno : numsOf ds with
            | none =>
              obtain rfl := hn2 hno
              clear hn1 hn2
              go_wp2_with fail
              go_meet
              exact ⟨Or.inl ⟨hno, rfl⟩, hb6⟩
            | some ns =>
              obtain ⟨A, cp, rfl, hA⟩ := hn1 ns hno
              clear hn1 hn2
              go_wp2_with fail
              go_meet
              exact ⟨Or.inr ⟨ns, A, cp, hno, rfl, rfl, hA⟩, hb6⟩
          · have HN2 := Lib.hid (HNUM.out 2 (Or.inr rfl))
            have l7 : ¬ L ≤ 2 := by omega
            have l8 : ¬ L - 2 = 0 := by omega
            have l9 : (2 : Int) < (L : Int) := by omega
            have l0 : 2 < L := by omega
            go_wp2_with fail
            refine HN2.out.mono ?_
            rintro e w6 ⟨hn1, hn2, hb6⟩
            cases hno : numsOf ds with
            | none =>
              obtain rfl := hn2 hno
              clear hn1 hn2
              go_wp2_with fail
              go_meet
              exact ⟨Or.inl ⟨hno, rfl⟩, hb6⟩
            | some ns =>
              obtain ⟨A, cp, rfl, hA⟩ := hn1 ns hno
              clear hn1 hn2
              go_wp2_with fail
              go_meet
              exact ⟨Or.inr ⟨ns, A, cp, hno, rfl, rfl, hA⟩, hb6⟩
        case rest =>
          obtain ⟨hor, hb6⟩ := hcut
          obtain ⟨w6, rfl⟩ : ∃ w6, wc = w6 := ⟨_, rfl⟩
          have hW6 : Below w.heap.size w wc := grow_step HW5.out hb6
          have HW6 := Lib.hid hW6
          have hu : wc.cell? ⟨0, 0, none⟩ = some (.iface 79 (.int .i64 2)) := (HE.out _ (below_but hW6 _)).2
          have lu := World.block_lt_of_cell? wc _ hu
          have c0 := (hb6.cell (p := ⟨hb, 0, none⟩) lh5).trans hC0
          have c1 := (hb6.cell (p := ⟨hb, 1, none⟩) lh5).trans hC1
          have lh6 := Nat.lt_of_lt_of_le lh5 hb6.size
          clear hC0 hC1 hb6 hW6 HNUM
          rcases hor with ⟨hno, rfl⟩ | ⟨ns, A, cp, hno, rfl, rfl, hA⟩
          · have HBAD : Hid (lineR d ws = (tBad, d)) := Lib.hid (by rw [HLR.out, hno])
            clear hno
            go_wp2_with fail
            go_quiet (fail)
            go_wp2_with fail
            go_ret2
            exact line_bad HBAD.out HD.out (grow_drewN HW6.out _)
          · have HA := Lib.hid hA
            have HNO := Lib.hid hno
            clear hA hno
            by_cases hz : nm.size = 0
            · have t2 : (nm.toList == []) = true := by
                have h1 := str_beq2 nm tNil
                rw [decide_eq_true (show nm = tNil from bytes_ext (by rw [List.eq_nil_of_length_eq_zero (show nm.data.toList.length = 0 by simpa using hz)]))] at h1
                exact h1
              have HBAD : Hid (lineR d ws = (tBad, d)) := Lib.hid (by rw [HLR.out, HNO.out]; exact if_pos hz)
              clear hz
              go_wp2_with fail
              go_quiet (fail)
              go_wp2_with fail
              go_ret2
              exact line_bad HBAD.out HD.out (grow_drewN HW6.out _)
            · have t2 : (nm.toList == []) = false := by
                have h1 := str_beq2 nm tNil
                rw [decide_eq_false (show ¬ nm = tNil from fun e => hz (by rw [e]; rfl))] at h1
                exact h1
              have HOUT : Hid (lineR d ws = namedR d w0 nm ns) := Lib.hid (by rw [HLR.out, HNO.out]; exact if_neg hz)
              have hwl : (ns.length : Int) + 1 = wantN w0 := by
                have h1 := numsOf_len HNO.out
                have h2 := HNL.out
                have h3 := HLC.out
                have h4 := HCW.out
                omega
              have HP := Lib.hid (named_any wc.drew g b N d w0 nm A cp ns (HD.out.below (grow_drew HW6.out)) (HA.out.below (grow_drew (grow_refl _))).ints (fun a ha => by
                have h1 := HA.out.2
                rcases h1 with ⟨h2, _⟩ | ⟨g1, cap, cur, hv, hg, _⟩
                · cases h2.symm.trans (by rw [ha])
                · have h3 := HHG.out.2
                  have h4 := HW5.out.size
                  injection hv with hv
                  rw [ha] at hv
                  injection hv with hv
                  rw [hv]
                  show g1 ≠ b
                  omega) HNZ.out hN hwl HNM.out (HE.out _ (below_but (grow_drew HW6.out) _)).1.1)
              have hgg : ¬ (hb = g ∨ hb = b) := by have h1 := HHG.out; have h2 := HHB.out; omega
              clear hz hwl
              go_upto_region 14 with fail
              go_region_held3 (fun w' => w'.cell? ⟨hb, 0, none⟩ = some (.string w0) ∧ w'.cell? ⟨hb, 1, none⟩ = some (.string nm))
                (first
                  | exact ⟨c0, c1⟩
                  | exact ⟨d0, d1⟩
                  | (go_keep; done))
                (first
                  | (go_at_call 49; refine HP.out.mono ?_; intro e w7 hp; have d0 : w7.cell? ⟨hb, 0, none⟩ = some (.string w0) := (World.cell?_of_block (hp.2.2.block hb lh6 hgg)).trans c0; have d1 : w7.cell? ⟨hb, 1, none⟩ = some (.string nm) := (World.cell?_of_block (hp.2.2.block hb lh6 hgg)).trans c1; obtain ⟨s2, x2, rfl, hsd⟩ := said_pair hp.1; have HP7 := Lib.hid hp; clear hsd hp))
              go_wp2_with fail
              go_ret2
              rw [HOUT.out]
              exact line_word (grow_drew HW6.out) HP7.out

end Go.Proofs.YtegiffdlfpdbkaaGreatDoor

namespace Go.Proofs.YtegiffdlfpdbkaaGreatDoor
open Go.RowKit Go.Extern.Stop Go.Stop Go.Extern
set_option maxRecDepth 100000
set_option linter.unusedVariables false
set_option linter.unusedSimpArgs false

theorem AsB.valueOfP (t : Addr) (w : World) : (ReflectliteValue.unpack (.iface 81 (.pointer (some t)))).run Tryz.prog w
    = .ok (.agg #[.pointer (some ⟨10, 81, none⟩), .pointer (some ⟨w.heap.size, 0, none⟩), .int .u64 150]) (w.alloc (.cells #[.pointer (some t)] 81)) := by kernel_rfl
theorem AsB.typeP (a : Addr) (w : World) : (ReflectliteValue.methodAny (ReflectliteValue.valueError "reflectlite.Value.Type" 0) (fun t _ _ _ => ReflectliteType.toType t) #[.agg #[.pointer (some ⟨10, 81, none⟩), .pointer (some a), .int .u64 150]]).run Tryz.prog w
    = .ok (.iface 123 (.agg #[.pointer (some ⟨10, 81, none⟩)])) w := by kernel_rfl
theorem AsB.methodKind (h : Value) (w : World) : (Go.method 318 123 (.agg #[h]) "Kind").run Tryz.prog w = .ok (150, h) w := by kernel_rfl
theorem AsB.kindP (w : World) : ((ReflectliteType.abiMethod fun t => (fun a : Nat => Value.int IntKind.u8 (a : Int)) <$> Rtype.kind t) #[.pointer (some ⟨10, 81, none⟩)]).run Tryz.prog w = .ok (.int .u8 22) w := by kernel_rfl
theorem AsB.kindE (w : World) : ((ReflectliteType.abiMethod fun t => (fun a : Nat => Value.int IntKind.u8 (a : Int)) <$> Rtype.kind t) #[.pointer (some ⟨10, 78, none⟩)]).run Tryz.prog w = .ok (.int .u8 25) w := by kernel_rfl
theorem AsB.partsP (a : Addr) (w : World) : (ReflectliteValue.parts (.agg #[.pointer (some ⟨10, 81, none⟩), .pointer (some a), .int .u64 150])).run Tryz.prog w = .ok (some (81, a, 150)) w := by kernel_rfl
theorem AsB.isNilP (a p : Addr) (W : World) (ha : W.cell? a = some (.pointer (some p))) :
    (ReflectliteValue.method (ReflectliteValue.valueError "reflectlite.Value.IsNil" 0) ReflectliteValue.isNil #[.agg #[.pointer (some ⟨10, 81, none⟩), .pointer (some a), .int .u64 150]]).run Tryz.prog W = .ok (.bool false) W := by
  rw [rlm]
  simp only [Sem.run_bind, AsB.partsP, Result.andThen]
  simp [ReflectliteValue.isNil, loadVar, isAgg, underlying, Tryz.underlying81, ha, Result.andThen]
theorem AsB.methodElem (h : Value) (w : World) : (Go.method 318 123 (.agg #[h]) "Elem").run Tryz.prog w = .ok (161, .agg #[h]) w := by kernel_rfl
theorem AsB.methodImplements (h : Value) (w : World) : (Go.method 318 123 (.agg #[h]) "Implements").run Tryz.prog w = .ok (162, .agg #[h]) w := by kernel_rfl
theorem AsB.methodAssignableTo (h : Value) (w : World) : (Go.method 318 123 (.agg #[h]) "AssignableTo").run Tryz.prog w = .ok (159, .agg #[h]) w := by kernel_rfl
theorem AsB.elemP (w : World) : (ReflectliteType.method ReflectliteType.elem #[.agg #[.pointer (some ⟨10, 81, none⟩)]]).run Tryz.prog w = .ok (.iface 123 (.agg #[.pointer (some ⟨10, 78, none⟩)])) w := by kernel_rfl
theorem AsB.implementsE (w : World) : (ReflectliteType.relation "Implements" ReflectliteType.implements_ #[.agg #[.pointer (some ⟨10, 78, none⟩)], .iface 123 (.agg #[.pointer (some ⟨10, 50, none⟩)])]).run Tryz.prog w = .ok (.bool true) w := by kernel_rfl
theorem AsB.typeOfE (v : Value) (w : World) : (ReflectliteType.typeOf #[.iface 78 v]).run Tryz.prog w = .ok (.iface 123 (.agg #[.pointer (some ⟨10, 78, none⟩)])) w := by kernel_rfl
theorem AsB.assignableE (w : World) : (ReflectliteType.relation "AssignableTo" ReflectliteType.assignableTo #[.agg #[.pointer (some ⟨10, 78, none⟩)], .iface 123 (.agg #[.pointer (some ⟨10, 78, none⟩)])]).run Tryz.prog w = .ok (.bool true) w := by kernel_rfl
theorem AsB.valueOfE (k : Value) (w : World) : (ReflectliteValue.unpack (.iface 78 (.agg #[k]))).run Tryz.prog w
    = .ok (.agg #[.pointer (some ⟨10, 78, none⟩), .pointer (some ⟨w.heap.size, 0, none⟩), .int .u64 153]) (w.alloc (.cells #[k] 78)) := by kernel_rfl
theorem AsB.elemOfP (w : World) : (Rtype.elem? 81).run Tryz.prog w = .ok (some 78) w := by kernel_rfl
theorem AsB.mkE (p : Addr) (w : World) : (ReflectliteValue.mk 78 p ReflectliteValue.flagAddr).run Tryz.prog w = .ok (.agg #[.pointer (some ⟨10, 78, none⟩), .pointer (some p), .int .u64 409]) w := by kernel_rfl
theorem AsB.elemV (a p : Addr) (W : World) (ha : W.cell? a = some (.pointer (some p))) :
    (ReflectliteValue.method (ReflectliteValue.valueError "reflectlite.Value.Elem" 0) ReflectliteValue.elem #[.agg #[.pointer (some ⟨10, 81, none⟩), .pointer (some a), .int .u64 150]]).run Tryz.prog W
      = .ok (.agg #[.pointer (some ⟨10, 78, none⟩), .pointer (some p), .int .u64 409]) W := by
  rw [rlm]
  simp only [Sem.run_bind, AsB.partsP, Result.andThen]
  simp [ReflectliteValue.elem, loadVar, isAgg, underlying, Tryz.underlying81, ha, Result.andThen, AsB.elemOfP, AsB.mkE]
theorem AsB.partsEa (a : Addr) (w : World) : (ReflectliteValue.parts (.agg #[.pointer (some ⟨10, 78, none⟩), .pointer (some a), .int .u64 409])).run Tryz.prog w = .ok (some (78, a, 409)) w := by kernel_rfl
theorem AsB.partsE (a : Addr) (w : World) : (ReflectliteValue.parts (.agg #[.pointer (some ⟨10, 78, none⟩), .pointer (some a), .int .u64 153])).run Tryz.prog w = .ok (some (78, a, 153)) w := by kernel_rfl
theorem AsB.directE (w : World) : (Rtype.directlyAssignable 78 78).run Tryz.prog w = .ok true w := by kernel_rfl
theorem AsB.setE (ta b : Addr) (v : Value) (old : Value) (W : World) (hb : W.cell? b = some v) (hb0 : b.add 0 = b) (ha0 : ta.add 0 = ta) (ht : W.cell? ta = some old) (hf : W.frozen? ta = false) (hv : v.oneCell' = true) :
    (ReflectliteValue.set #[.agg #[.pointer (some ⟨10, 78, none⟩), .pointer (some ta), .int .u64 409], .agg #[.pointer (some ⟨10, 78, none⟩), .pointer (some b), .int .u64 153]]).run Tryz.prog W
      = .ok (.tuple #[]) (W.setCell ta v) := by
  rw [rls]
  simp only [Sem.run_bind, AsB.partsEa, AsB.partsE, Result.andThen]
  simp [ReflectliteValue.flagAddr, loadVar, isAgg, underlying, Tryz.underlying78, hb, Result.andThen, AsB.directE, storeVar, Value.cells, storeCells, loadCells, Addr.add]
  have hl : (loadCellsFrom b 0 1 #[]).run Tryz.prog W = .ok #[v] W := by
    have h0 : ∀ j, j < 1 → W.cell? (b.add (0 + j)) = some v := fun j hj => by
      obtain rfl : j = 0 := by omega
      rw [hb0]; exact hb
    have := run_loadCellsFrom (P := Tryz.prog) W b (fun _ => v) 1 0 #[] h0
    simpa using this
  rw [hl]
  simp [storeCells, Result.andThen, ha0]
  rw [run_store Tryz.prog W ta _ _ hv]
  simp [ht, hf]

set_option maxHeartbeats 4000000 in
theorem asB_hit (x : Value) (tb : Nat) (old : Value) (w : World) (hg : Door w) (ht0 : w.cell? ⟨tb, 0, none⟩ = some old) (hf0 : w.frozen? ⟨tb, 0, none⟩ = false) (hx1 : x.oneCell' = true) :
    Calls Tryz.prog 34 #[.iface 78 (.agg #[x]), .iface 81 (.pointer (some ⟨tb, 0, none⟩))] w fun ev w' => ev = .returned (.bool true) ∧ w' = ((((w.alloc (.cells #[.pointer (some ⟨tb, 0, none⟩)] 81)).alloc (.cells #[.pointer (some ⟨10, 81, none⟩), .pointer (some ⟨w.heap.size, 0, none⟩), .int .u64 150] 99)).alloc (.cells #[.pointer (some ⟨10, 81, none⟩), .pointer (some ⟨w.heap.size, 0, none⟩), .int .u64 150] 99)).alloc (.cells #[x] 78)).setCell ⟨tb, 0, none⟩ x := by
  have h6 := @run_callFunc_extern Tryz.prog 50 _ (fun args => ReflectliteValue.unpack (args.getD 0 (.tuple #[]))) Tryz.func50 (by kernel_rfl) (by kernel_rfl) (by kernel_rfl) (by kernel_rfl)
  have h7 := @run_callFunc_extern Tryz.prog 51 _ (ReflectliteValue.methodAny (ReflectliteValue.valueError "reflectlite.Value.Type" 0) (fun t _ _ _ => ReflectliteType.toType t)) Tryz.func51 (by kernel_rfl) (by kernel_rfl) (by kernel_rfl) (by kernel_rfl)
  have h8 := @run_callFunc_extern Tryz.prog 52 _ (ReflectliteValue.method (ReflectliteValue.valueError "reflectlite.Value.IsNil" 0) ReflectliteValue.isNil) Tryz.func52 (by kernel_rfl) (by kernel_rfl) (by kernel_rfl) (by kernel_rfl)
  have hK := @run_callFunc_extern Tryz.prog 150 _ (ReflectliteType.abiMethod fun t => do pure (.int .u8 (← Rtype.kind t))) Tryz.func150 (by kernel_rfl) (by kernel_rfl) (by kernel_rfl) (by kernel_rfl)
  have hE := @run_callFunc_extern Tryz.prog 161 _ (ReflectliteType.method ReflectliteType.elem) Tryz.func161 (by kernel_rfl) (by kernel_rfl) (by kernel_rfl) (by kernel_rfl)
  have hI := @run_callFunc_extern Tryz.prog 162 _ (ReflectliteType.relation "Implements" ReflectliteType.implements_) Tryz.func162 (by kernel_rfl) (by kernel_rfl) (by kernel_rfl) (by kernel_rfl)
  have h10 := @run_callFunc_extern Tryz.prog 69 _ ReflectliteType.typeOf Tryz.func69 (by kernel_rfl) (by kernel_rfl) (by kernel_rfl) (by kernel_rfl)
  have hAs := @run_callFunc_extern Tryz.prog 159 _ (ReflectliteType.relation "AssignableTo" ReflectliteType.assignableTo) Tryz.func159 (by kernel_rfl) (by kernel_rfl) (by kernel_rfl) (by kernel_rfl)
  have h11 := @run_callFunc_extern Tryz.prog 70 _ (ReflectliteValue.method (ReflectliteValue.valueError "reflectlite.Value.Elem" 0) ReflectliteValue.elem) Tryz.func70 (by kernel_rfl) (by kernel_rfl) (by kernel_rfl) (by kernel_rfl)
  have h12 := @run_callFunc_extern Tryz.prog 71 _ ReflectliteValue.set Tryz.func71 (by kernel_rfl) (by kernel_rfl) (by kernel_rfl) (by kernel_rfl)
  have tO := AsB.typeOfE
  have mA := AsB.methodAssignableTo
  have aE := AsB.assignableE
  have vE := AsB.valueOfE
  have fP := AsB.valueOfP
  have tP := AsB.typeP
  have mK := AsB.methodKind
  have mE := AsB.methodElem
  have mI := AsB.methodImplements
  have kP := AsB.kindP
  have kE := AsB.kindE
  have eP := AsB.elemP
  have iE := AsB.implementsE
  have n8 := AsB.isNilP ⟨w.heap.size, 0, none⟩ ⟨tb, 0, none⟩ ((w.alloc (.cells #[.pointer (some ⟨tb, 0, none⟩)] 81)).alloc (.cells #[.pointer (some ⟨10, 81, none⟩), .pointer (some ⟨w.heap.size, 0, none⟩), .int .u64 150] 99)) (by simp)
  have hlt := hg.lt
  have hg2 : ((w.alloc (.cells #[.pointer (some ⟨tb, 0, none⟩)] 81)).alloc (.cells #[.pointer (some ⟨10, 81, none⟩), .pointer (some ⟨w.heap.size, 0, none⟩), .int .u64 150] 99)).cell? ⟨1, 0, none⟩ = some (.iface 123 (.agg #[.pointer (some ⟨10, 50, none⟩)])) :=
    hg.below (grow_alloc (grow_alloc (grow_refl w) _) _)
  have htl : tb < w.heap.size := by
    rcases Nat.lt_or_ge tb w.heap.size with h | h
    · exact h
    · simp [World.cell?, Array.getElem?_eq_none h] at ht0
  have el := AsB.elemV ⟨w.heap.size, 0, none⟩ ⟨tb, 0, none⟩ (((w.alloc (.cells #[.pointer (some ⟨tb, 0, none⟩)] 81)).alloc (.cells #[.pointer (some ⟨10, 81, none⟩), .pointer (some ⟨w.heap.size, 0, none⟩), .int .u64 150] 99)).alloc (.cells #[.pointer (some ⟨10, 81, none⟩), .pointer (some ⟨w.heap.size, 0, none⟩), .int .u64 150] 99)) (by rw [World.cell?_alloc_lt _ _ ⟨w.heap.size, 0, none⟩ (by simp; omega)]; simp)
  have st := AsB.setE ⟨tb, 0, none⟩ ⟨w.heap.size + 1 + 1 + 1, 0, none⟩ x old ((((w.alloc (.cells #[.pointer (some ⟨tb, 0, none⟩)] 81)).alloc (.cells #[.pointer (some ⟨10, 81, none⟩), .pointer (some ⟨w.heap.size, 0, none⟩), .int .u64 150] 99)).alloc (.cells #[.pointer (some ⟨10, 81, none⟩), .pointer (some ⟨w.heap.size, 0, none⟩), .int .u64 150] 99)).alloc (.cells #[x] 78))
    (by rw [World.cell?_alloc_at _ _ _ _ (by simp)]; rfl) rfl rfl
    (by rw [World.cell?_alloc_lt _ _ ⟨tb, 0, none⟩ (by simp; omega), World.cell?_alloc_lt _ _ ⟨tb, 0, none⟩ (by simp; omega), World.cell?_alloc_lt _ _ ⟨tb, 0, none⟩ (by simp; omega), World.cell?_alloc_lt _ _ ⟨tb, 0, none⟩ htl]; exact ht0)
    (by rw [World.frozen?_alloc_old _ _ ⟨tb, 0, none⟩ (by simp; omega), World.frozen?_alloc_old _ _ ⟨tb, 0, none⟩ (by simp; omega), World.frozen?_alloc_old _ _ ⟨tb, 0, none⟩ (by simp; omega), World.frozen?_alloc_old _ _ ⟨tb, 0, none⟩ (Nat.ne_of_lt htl)]; exact hf0) hx1
  clear hg
  go_enter Tryz.func34, Tryz.ntmps34
  go_wp2
  refine wp_loop_rounds 1 ?_
  rw [rounds_succ]
  go_wp2
  go_ret
  exact ⟨rfl, rfl⟩


theorem AsB.typeOfM (v : Value) (w : World) : (ReflectliteType.typeOf #[.iface 79 v]).run Tryz.prog w = .ok (.iface 123 (.agg #[.pointer (some ⟨10, 79, none⟩)])) w := by kernel_rfl
theorem AsB.assignableM (w : World) : (ReflectliteType.relation "AssignableTo" ReflectliteType.assignableTo #[.agg #[.pointer (some ⟨10, 79, none⟩)], .iface 123 (.agg #[.pointer (some ⟨10, 78, none⟩)])]).run Tryz.prog w = .ok (.bool false) w := by kernel_rfl
theorem AsB.noAs (v : Value) (xT : TypeId) (w : World) : (Instr.typeAssert (.iface 79 v) xT 128 true).run Tryz.prog w = .ok (.tuple #[.nilIface, .bool false]) w := run_typeAssert_lacksB Tryz.underlying128 (by kernel_rfl) (by kernel_rfl) v xT w
theorem AsB.noUn (v : Value) (xT : TypeId) (w : World) : (Instr.typeAssert (.iface 79 v) xT 131 true).run Tryz.prog w = .ok (.tuple #[.nilIface, .bool false]) w := run_typeAssert_lacksB Tryz.underlying131 (by kernel_rfl) (by kernel_rfl) v xT w
theorem AsB.noUns (v : Value) (xT : TypeId) (w : World) : (Instr.typeAssert (.iface 79 v) xT 133 true).run Tryz.prog w = .ok (.tuple #[.nilIface, .bool false]) w := run_typeAssert_lacksB Tryz.underlying133 (by kernel_rfl) (by kernel_rfl) v xT w

theorem asNil (v : Value) (w : World) : Calls Tryz.prog 34 #[.nilIface, v] w fun ev w' => ev = .returned (.bool false) ∧ w' = w := by
  go_enter Tryz.func34, Tryz.ntmps34
  go_wp2
  go_ret
  exact ⟨rfl, rfl⟩

set_option maxHeartbeats 4000000 in
theorem asB_miss (k : Int) (tb : Nat) (w : World) (hg : Door w) :
    Calls Tryz.prog 34 #[.iface 79 (.int .i64 k), .iface 81 (.pointer (some ⟨tb, 0, none⟩))] w fun ev w' => ev = .returned (.bool false) ∧ w' = ((w.alloc (.cells #[.pointer (some ⟨tb, 0, none⟩)] 81)).alloc (.cells #[.pointer (some ⟨10, 81, none⟩), .pointer (some ⟨w.heap.size, 0, none⟩), .int .u64 150] 99)).alloc (.cells #[.pointer (some ⟨10, 81, none⟩), .pointer (some ⟨w.heap.size, 0, none⟩), .int .u64 150] 99) := by
  have h6 := @run_callFunc_extern Tryz.prog 50 _ (fun args => ReflectliteValue.unpack (args.getD 0 (.tuple #[]))) Tryz.func50 (by kernel_rfl) (by kernel_rfl) (by kernel_rfl) (by kernel_rfl)
  have h7 := @run_callFunc_extern Tryz.prog 51 _ (ReflectliteValue.methodAny (ReflectliteValue.valueError "reflectlite.Value.Type" 0) (fun t _ _ _ => ReflectliteType.toType t)) Tryz.func51 (by kernel_rfl) (by kernel_rfl) (by kernel_rfl) (by kernel_rfl)
  have h8 := @run_callFunc_extern Tryz.prog 52 _ (ReflectliteValue.method (ReflectliteValue.valueError "reflectlite.Value.IsNil" 0) ReflectliteValue.isNil) Tryz.func52 (by kernel_rfl) (by kernel_rfl) (by kernel_rfl) (by kernel_rfl)
  have hK := @run_callFunc_extern Tryz.prog 150 _ (ReflectliteType.abiMethod fun t => do pure (.int .u8 (← Rtype.kind t))) Tryz.func150 (by kernel_rfl) (by kernel_rfl) (by kernel_rfl) (by kernel_rfl)
  have hE := @run_callFunc_extern Tryz.prog 161 _ (ReflectliteType.method ReflectliteType.elem) Tryz.func161 (by kernel_rfl) (by kernel_rfl) (by kernel_rfl) (by kernel_rfl)
  have hI := @run_callFunc_extern Tryz.prog 162 _ (ReflectliteType.relation "Implements" ReflectliteType.implements_) Tryz.func162 (by kernel_rfl) (by kernel_rfl) (by kernel_rfl) (by kernel_rfl)
  have h10 := @run_callFunc_extern Tryz.prog 69 _ ReflectliteType.typeOf Tryz.func69 (by kernel_rfl) (by kernel_rfl) (by kernel_rfl) (by kernel_rfl)
  have hAs := @run_callFunc_extern Tryz.prog 159 _ (ReflectliteType.relation "AssignableTo" ReflectliteType.assignableTo) Tryz.func159 (by kernel_rfl) (by kernel_rfl) (by kernel_rfl) (by kernel_rfl)
  have h11 := @run_callFunc_extern Tryz.prog 70 _ (ReflectliteValue.method (ReflectliteValue.valueError "reflectlite.Value.Elem" 0) ReflectliteValue.elem) Tryz.func70 (by kernel_rfl) (by kernel_rfl) (by kernel_rfl) (by kernel_rfl)
  have h12 := @run_callFunc_extern Tryz.prog 71 _ ReflectliteValue.set Tryz.func71 (by kernel_rfl) (by kernel_rfl) (by kernel_rfl) (by kernel_rfl)
  have tO := AsB.typeOfM
  have mA := AsB.methodAssignableTo
  have aE := AsB.assignableM
  have q1 := AsB.noAs
  have q2 := AsB.noUn
  have q3 := AsB.noUns
  have fP := AsB.valueOfP
  have tP := AsB.typeP
  have mK := AsB.methodKind
  have mE := AsB.methodElem
  have mI := AsB.methodImplements
  have kP := AsB.kindP
  have kE := AsB.kindE
  have eP := AsB.elemP
  have iE := AsB.implementsE
  have n8 := AsB.isNilP ⟨w.heap.size, 0, none⟩ ⟨tb, 0, none⟩ ((w.alloc (.cells #[.pointer (some ⟨tb, 0, none⟩)] 81)).alloc (.cells #[.pointer (some ⟨10, 81, none⟩), .pointer (some ⟨w.heap.size, 0, none⟩), .int .u64 150] 99)) (by simp)
  have hlt := hg.lt
  have hg2 : ((w.alloc (.cells #[.pointer (some ⟨tb, 0, none⟩)] 81)).alloc (.cells #[.pointer (some ⟨10, 81, none⟩), .pointer (some ⟨w.heap.size, 0, none⟩), .int .u64 150] 99)).cell? ⟨1, 0, none⟩ = some (.iface 123 (.agg #[.pointer (some ⟨10, 50, none⟩)])) :=
    hg.below (grow_alloc (grow_alloc (grow_refl w) _) _)
  clear hg
  go_enter Tryz.func34, Tryz.ntmps34
  go_wp2
  refine wp_loop_rounds 1 ?_
  rw [rounds_succ]
  go_wp2
  go_ret
  exact ⟨rfl, rfl⟩


end Go.Proofs.YtegiffdlfpdbkaaGreatDoor

namespace Go.Proofs.YtegiffdlfpdbkaaGreatDoor
open Go.RowKit Go.Maps Go.WideMaps
set_option maxRecDepth 100000
set_option linter.unusedVariables false
set_option linter.unusedSimpArgs false

set_option maxHeartbeats 2000000 in
theorem errText_any (k : Int) (w : World) : Calls Tryz.prog 35 #[.int .i64 k] w fun e w' => e = .returned (.string (errN k)) ∧ w' = w := by
  by_cases h0 : k = 0
  · subst h0
    go_enter Tryz.func35, Tryz.ntmps35
    go_wp2_with fail
    go_ret
    exact ⟨rfl, rfl⟩
  by_cases h1 : k = 1
  · subst h1
    go_enter Tryz.func35, Tryz.ntmps35
    go_wp2_with fail
    go_ret
    exact ⟨rfl, rfl⟩
  by_cases h2 : k = 2
  · subst h2
    go_enter Tryz.func35, Tryz.ntmps35
    go_wp2_with fail
    go_ret
    exact ⟨rfl, rfl⟩
  by_cases h3 : k = 3
  · subst h3
    go_enter Tryz.func35, Tryz.ntmps35
    go_wp2_with fail
    go_ret
    exact ⟨rfl, rfl⟩
  by_cases h4 : k = 4
  · subst h4
    go_enter Tryz.func35, Tryz.ntmps35
    go_wp2_with fail
    go_ret
    exact ⟨rfl, rfl⟩
  by_cases h5 : k = 5
  · subst h5
    go_enter Tryz.func35, Tryz.ntmps35
    go_wp2_with fail
    go_ret
    exact ⟨rfl, rfl⟩
  by_cases h6 : k = 6
  · subst h6
    go_enter Tryz.func35, Tryz.ntmps35
    go_wp2_with fail
    go_ret
    exact ⟨rfl, rfl⟩
  by_cases h7 : k = 7
  · subst h7
    go_enter Tryz.func35, Tryz.ntmps35
    go_wp2_with fail
    go_ret
    exact ⟨rfl, rfl⟩
  by_cases h8 : k = 8
  · subst h8
    go_enter Tryz.func35, Tryz.ntmps35
    go_wp2_with fail
    go_ret
    exact ⟨rfl, rfl⟩
  by_cases h9 : k = 9
  · subst h9
    go_enter Tryz.func35, Tryz.ntmps35
    go_wp2_with fail
    go_ret
    exact ⟨rfl, rfl⟩
  have t : errN k = { data := #[69, 114, 114, 110, 111] } := by unfold errN; rw [if_neg h0, if_neg h1, if_neg h2, if_neg h3, if_neg h4, if_neg h5, if_neg h6, if_neg h7, if_neg h8, if_neg h9]
  rw [t]
  have b0 : (k == 0) = false := by simpa using h0
  have b1 : (k == 1) = false := by simpa using h1
  have b2 : (k == 2) = false := by simpa using h2
  have b3 : (k == 3) = false := by simpa using h3
  have b4 : (k == 4) = false := by simpa using h4
  have b5 : (k == 5) = false := by simpa using h5
  have b6 : (k == 6) = false := by simpa using h6
  have b7 : (k == 7) = false := by simpa using h7
  have b8 : (k == 8) = false := by simpa using h8
  have b9 : (k == 9) = false := by simpa using h9
  clear h0 h1 h2 h3 h4 h5 h6 h7 h8 h9
  go_enter Tryz.func35, Tryz.ntmps35
  go_wp2_with fail
  go_ret
  exact ⟨rfl, rfl⟩

set_option maxHeartbeats 4000000 in
theorem answer_any (w : World) (g b N : Nat) (d : Dsk) (s : ByteArray) (h : DeskAt w g b N d) (hs : s.size ≤ 3000) (hN : N ≤ 900000) (hE : ∀ w', But (fun k => k = g ∨ k = b) w w' → ReadT w' ∧ UnreadT w') (hD : ∀ w', But (fun k => k = g ∨ k = b) w w' → Door w') :
    Calls Tryz.prog 13 #[.pointer (some ⟨g, 0, none⟩), .string s] w fun e w' => e = .returned (.string (lineR d (wordsB s)).1) ∧ DeskAt w' g b (N + 1) (lineR d (wordsB s)).2 ∧ But (fun k => k = g ∨ k = b) w w' := by
  have HL := Lib.hid (line_any w g b N d s h hs hN hE)
  have HD := Lib.hid hD
  obtain ⟨R, hR⟩ : ∃ R, lineR d (wordsB s) = R := ⟨_, rfl⟩
  rw [hR] at HL ⊢
  obtain ⟨v, d2⟩ := R
  clear hR hE hD h
  go_enter Tryz.func13, Tryz.ntmps13
  go_wp2_with fail
  refine HL.out.mono ?_
  intro e w1 hp
  obtain ⟨hs1, hd1, hk1⟩ := hp
  have HK1 := Lib.hid hk1
  have HD1 := Lib.hid hd1
  have hdoor := HD.out w1 hk1
  have HDR := Lib.hid hdoor
  clear hdoor hd1 hk1
  rcases hs1 with rfl | ⟨s2, k, hk0, hki, rfl, hv⟩ | ⟨s2, rfl, hv⟩
  · go_wp2_with (go_at_call 34; refine (asNil _ _).mono ?_; rintro e w' ⟨rfl, rfl⟩)
    go_ret
    have hb : Below w1.heap.size w1 ((w1.alloc (.cells #[.nilIface] 78)).alloc (.cells #[.int .i64 0] 79)) := grow_alloc (grow_alloc (grow_refl _) _) _
    exact ⟨rfl, HD1.out.below hb, HK1.out.trans (below_but hb _) (fun _ _ h => h)⟩
  · have hk2 : v = errN k := hv
    subst hk2
    rw [errV_mk hk0]
    have hbA : Below w1.heap.size w1 ((w1.alloc (.cells #[.nilIface] 78)).alloc (.cells #[.int .i64 0] 79)) := grow_alloc (grow_alloc (grow_refl _) _) _
    have HBA := Lib.hid hbA
    have HM := Lib.hid (asB_miss k w1.heap.size _ (HDR.out.below hbA))
    obtain ⟨WB, hWB⟩ : ∃ WB, (((((w1.alloc (.cells #[.nilIface] 78)).alloc (.cells #[.int .i64 0] 79)).alloc (.cells #[.pointer (some ⟨w1.heap.size, 0, none⟩)] 81)).alloc (.cells #[.pointer (some ⟨10, 81, none⟩), .pointer (some ⟨((w1.alloc (.cells #[.nilIface] 78)).alloc (.cells #[.int .i64 0] 79)).heap.size, 0, none⟩), .int .u64 150] 99)).alloc (.cells #[.pointer (some ⟨10, 81, none⟩), .pointer (some ⟨((w1.alloc (.cells #[.nilIface] 78)).alloc (.cells #[.int .i64 0] 79)).heap.size, 0, none⟩), .int .u64 150] 99)) = WB := ⟨_, rfl⟩
    have hbB : Below w1.heap.size w1 WB := by rw [← hWB]; exact grow_alloc (grow_alloc (grow_alloc hbA _) _) _
    have hx : Box WB (w1.heap.size + 1) 79 #[.int .i64 0] := by
      rw [← hWB]
      have h1 := (((Box.new (w1.alloc (.cells #[.nilIface] 78)) 79 #[.int .i64 0]).alloc_ (.cells #[.pointer (some ⟨w1.heap.size, 0, none⟩)] 81)).alloc_ (.cells #[.pointer (some ⟨10, 81, none⟩), .pointer (some ⟨((w1.alloc (.cells #[.nilIface] 78)).alloc (.cells #[.int .i64 0] 79)).heap.size, 0, none⟩), .int .u64 150] 99)).alloc_ (.cells #[.pointer (some ⟨10, 81, none⟩), .pointer (some ⟨((w1.alloc (.cells #[.nilIface] 78)).alloc (.cells #[.int .i64 0] 79)).heap.size, 0, none⟩), .int .u64 150] 99)
      rw [show (w1.alloc (.cells #[.nilIface] 78)).heap.size = w1.heap.size + 1 by simp] at h1
      exact h1
    rw [hWB] at HM
    have HX := Lib.hid hx
    have HBB := Lib.hid hbB
    have HWB := Lib.hid hWB
    clear hbA hWB hbB hx
    have HH := Lib.hid (as_hit k ⟨w1.heap.size + 1, 0, none⟩ (.int .i64 0) WB (HDR.out.below HBB.out) (by rw [HX.out.cell 0]; rfl) (HX.out.frozen 0))
    go_wp2_with fail
    refine HM.out.mono ?_
    rintro e w' ⟨rfl, hw'⟩
    obtain rfl : WB = w' := hw'.symm
    go_wp2_with fail
    refine HH.out.mono ?_
    rintro e w' ⟨rfl, hw'⟩
    have hc : w'.cell? ⟨w1.heap.size + 1, 0, none⟩ = some (.int .i64 k) := by
      have h1 := (((((HX.out.alloc_ (.cells #[.pointer (some ⟨w1.heap.size + 1, 0, none⟩)] 82)).alloc_ (.cells #[.pointer (some ⟨10, 82, none⟩), .pointer (some ⟨WB.heap.size, 0, none⟩), .int .u64 150] 99)).alloc_ (.cells #[.pointer (some ⟨10, 82, none⟩), .pointer (some ⟨WB.heap.size, 0, none⟩), .int .u64 150] 99)).alloc_ (.cells #[.int .i64 k] 79)).set_ 0 (.int .i64 k)).cell 0
      rw [hw']
      exact h1
    have hb2 : Below w1.heap.size w1 w' := by
      rw [hw']
      exact grow_set (grow_alloc (grow_alloc (grow_alloc (grow_alloc HBB.out _) _) _) _) (by show w1.heap.size ≤ w1.heap.size + 1; omega) _
    have HB2 := Lib.hid hb2
    clear hw' hb2
    go_wp2_with fail
    refine (errText_any k _).mono ?_
    rintro e w2 ⟨rfl, rfl⟩
    go_wp2_with fail
    go_ret
    exact ⟨rfl, HD1.out.below HB2.out, HK1.out.trans (below_but HB2.out _) (fun _ _ h => h)⟩
  · have hk2 : v = tBad := hv
    subst hk2
    have hbA : Below w1.heap.size w1 ((w1.alloc (.cells #[.nilIface] 78)).alloc (.cells #[.int .i64 0] 79)) := grow_alloc (grow_alloc (grow_refl _) _) _
    have hx := (Box.new w1 78 #[.nilIface]).alloc_ (.cells #[.int .i64 0] 79)
    have HM := Lib.hid (asB_hit (.iface 79 (.int .i64 2)) w1.heap.size .nilIface _ (HDR.out.below hbA) (by rw [hx.cell 0]; rfl) (hx.frozen 0) rfl)
    clear hbA hx
    go_wp2_with fail
    refine HM.out.mono ?_
    rintro e w' ⟨rfl, hw'⟩
    have hb2 : Below w1.heap.size w1 w' := by
      rw [hw']
      exact grow_set (grow_alloc (grow_alloc (grow_alloc (grow_alloc (grow_alloc (grow_alloc (grow_refl _) _) _) _) _) _) _) (Nat.le_refl _) _
    have HB2 := Lib.hid hb2
    clear hw' hb2 HM
    go_wp2_with fail
    go_ret
    exact ⟨rfl, HD1.out.below HB2.out, HK1.out.trans (below_but HB2.out _) (fun _ _ h => h)⟩

end Go.Proofs.YtegiffdlfpdbkaaGreatDoor
