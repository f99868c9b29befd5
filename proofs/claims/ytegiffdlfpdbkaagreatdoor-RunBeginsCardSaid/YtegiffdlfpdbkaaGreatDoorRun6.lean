/- run: how many words each word wants: a map. -/
import Derived.Test.YtegiffdlfpdbkaaGreatDoorRows
import Derived.Test.YtegiffdlfpdbkaaGreatDoorNum
import Derived.Test.YtegiffdlfpdbkaaGreatDoorBase
import Derived.Test.YtegiffdlfpdbkaaGreatDoorApp
import Derived.Test.YtegiffdlfpdbkaaGreatDoorFoot
import Derived.Test.YtegiffdlfpdbkaaGreatDoorMeas
import Derived.Test.YtegiffdlfpdbkaaGreatDoorKey
import Derived.Test.YtegiffdlfpdbkaaGreatDoorBank3
import Derived.Test.YtegiffdlfpdbkaaGreatDoorImg
import Derived.Test.YtegiffdlfpdbkaaGreatDoorImg2
import Derived.Test.YtegiffdlfpdbkaaGreatDoorCount
import Derived.Test.YtegiffdlfpdbkaaGreatDoorCntP
import Derived.Test.YtegiffdlfpdbkaaGreatDoorCntC
import Derived.Test.YtegiffdlfpdbkaaGreatDoorParse
import Derived.Test.YtegiffdlfpdbkaaGreatDoorRefL
import Derived.Test.YtegiffdlfpdbkaaGreatDoorRunP
import Derived.Test.YtegiffdlfpdbkaaGreatDoorRun1
import Derived.Test.YtegiffdlfpdbkaaGreatDoorQuietC
import Derived.Test.YtegiffdlfpdbkaaGreatDoorRun2
import Derived.Test.YtegiffdlfpdbkaaGreatDoorRun3
import Derived.Test.YtegiffdlfpdbkaaGreatDoorRun4
import Derived.Test.YtegiffdlfpdbkaaGreatDoorRun5
import Derived.Test.YtegiffdlfpdbkaaGreatDoorBank
import Derived.Test.YtegiffdlfpdbkaaGreatDoorLiftT
import Derived.WalkKit
import Derived.WalkSpells
import Derived.WalkLawsBesides
import Derived.Lib.Hide
import Derived.BigQuiet
import Derived.Deep.QuietTactic
import Derived.Deep.RegionHeld3
import Derived.Deep.DeepCutAuto
import Derived.Maps.OwnSet
import Derived.Maps.OwnOps
import Derived.Maps.Views
import Derived.OwnWalk
import Derived.StringKeys
namespace Go.Proofs.YtegiffdlfpdbkaaGreatDoor
open Go.RowKit Go.Maps Go.WideMaps
set_option maxRecDepth 100000
set_option linter.unusedVariables false
set_option linter.unusedSimpArgs false

theorem wpList_insert_own {H : Type} {P : Program} (w : World) {ops : Array Oper} {rest : List Oper} {o : Oper} {a : Act} {Q : Exit → Act → World → Prop}
    (hg : o.guard = none) (m x v : Operand) (t : TypeId) (hop : o.op = Op.insert t m x v)
    (k e : TypeId) (K : Keyed P k) (ht : P.underlying t = some (.map k e)) (R : Value → Option (DataW H × List MemPlace)) (b n : Nat) (D : DataW H)
    (hm : a.eval m = .map (some b)) (hown : w.ownsMap P k R b n D) (hn : n < maxLen) (key val : Value) (kl : Lit) (hx : a.eval x = key) (hv : a.eval v = val) (hkey : keyOf P k key = some kl)
    (d : DataW H) (ps : List MemPlace) (hval : R val = some (d, ps))
    (hK : ∀ w', w'.ownsMap P k R b (n + 1) (D.put kl d) → w.grownBy w' (some b) → wpList P ops Q rest (a.put o.dst undef) w') :
    wpList P ops Q (o :: rest) a w := by
  refine wpList_plain hg fun K' hK' => ?_
  obtain ⟨w', hrun, r1, r2⟩ := hown.update K ht hn hkey hval
  unfold Oper.wp
  simp [execOp, hop, hm, hx, hv, hrun, Result.andThen]
  exact hK' _ _ (hK w' r1 r2)

theorem grown_below {w w' : World} {base b : Nat} (hg : w.grownBy w' (some b)) (hb : base ≤ w.heap.size) (hbb : base ≤ b := by omega) : Below base w w' :=
  ⟨hg.os, hg.tape, hg.output, hg.size, fun k hk => hg.block k (by omega) (fun e => by injection e with e; omega)⟩
def strL (s : ByteArray) : Lit := .string s.data.toList
/-- The map of the words. -/
def wantD : DataW Unit := (((((((((.map [] : DataW Unit).put (strL wExtend) (.lit (.int .i64 2))).put (strL wDigest) (.lit (.int .i64 1))).put (strL wMeasure) (.lit (.int .i64 1))).put (strL wRaise) (.lit (.int .i64 2))).put (strL wMay) (.lit (.int .i64 2))).put (strL wPublic) (.lit (.int .i64 1))).put (strL wSign) (.lit (.int .i64 3))).put (strL wCheck) (.lit (.int .i64 4)))
set_option maxHeartbeats 2000000 in
theorem wants_any (w : World) :
    Calls Tryz.prog 46 #[] w fun e w' => e = .returned (.map (some w.heap.size)) ∧ w'.ownsMap Tryz.prog 9 (plainElem Tryz.prog 3) w.heap.size 8 wantD ∧ Below w.heap.size w w' := by
  have hmm := @run_makeMap Tryz.prog
  have k0 := keyOf_string_mk (P := Tryz.prog) Tryz.underlying9 (s := wExtend) (by decide)
  have k1 := keyOf_string_mk (P := Tryz.prog) Tryz.underlying9 (s := wDigest) (by decide)
  have k2 := keyOf_string_mk (P := Tryz.prog) Tryz.underlying9 (s := wMeasure) (by decide)
  have k3 := keyOf_string_mk (P := Tryz.prog) Tryz.underlying9 (s := wRaise) (by decide)
  have k4 := keyOf_string_mk (P := Tryz.prog) Tryz.underlying9 (s := wMay) (by decide)
  have k5 := keyOf_string_mk (P := Tryz.prog) Tryz.underlying9 (s := wPublic) (by decide)
  have k6 := keyOf_string_mk (P := Tryz.prog) Tryz.underlying9 (s := wSign) (by decide)
  have k7 := keyOf_string_mk (P := Tryz.prog) Tryz.underlying9 (s := wCheck) (by decide)
  have O := World.ownsMap_made w Tryz.prog 9 (plainElem Tryz.prog 3 : Value → Option (DataW Unit × List MemPlace))
  have B := grow_alloc (grow_refl w) (.map #[] 0)
  go_enter Tryz.func46, Tryz.ntmps46
  go_upto_region 1 with fail
  go_wp2_with fail
  obtain ⟨v0, hr0, O0, hg0⟩ := O.update (val := .int .i64 2) lawS mapU (by unfold maxLen; omega) k0 (plainElem_int Tryz.underlying3 (WalkArith.wf_i64 (by omega)))
  rw [hr0]
  go_wp2_with fail
  obtain ⟨v1, hr1, O1, hg1⟩ := O0.update (val := .int .i64 1) lawS mapU (by unfold maxLen; omega) k1 (plainElem_int Tryz.underlying3 (WalkArith.wf_i64 (by omega)))
  rw [hr1]
  go_wp2_with fail
  obtain ⟨v2, hr2, O2, hg2⟩ := O1.update (val := .int .i64 1) lawS mapU (by unfold maxLen; omega) k2 (plainElem_int Tryz.underlying3 (WalkArith.wf_i64 (by omega)))
  rw [hr2]
  go_wp2_with fail
  obtain ⟨v3, hr3, O3, hg3⟩ := O2.update (val := .int .i64 2) lawS mapU (by unfold maxLen; omega) k3 (plainElem_int Tryz.underlying3 (WalkArith.wf_i64 (by omega)))
  rw [hr3]
  go_wp2_with fail
  obtain ⟨v4, hr4, O4, hg4⟩ := O3.update (val := .int .i64 2) lawS mapU (by unfold maxLen; omega) k4 (plainElem_int Tryz.underlying3 (WalkArith.wf_i64 (by omega)))
  rw [hr4]
  go_wp2_with fail
  obtain ⟨v5, hr5, O5, hg5⟩ := O4.update (val := .int .i64 1) lawS mapU (by unfold maxLen; omega) k5 (plainElem_int Tryz.underlying3 (WalkArith.wf_i64 (by omega)))
  rw [hr5]
  go_wp2_with fail
  obtain ⟨v6, hr6, O6, hg6⟩ := O5.update (val := .int .i64 3) lawS mapU (by unfold maxLen; omega) k6 (plainElem_int Tryz.underlying3 (WalkArith.wf_i64 (by omega)))
  rw [hr6]
  go_wp2_with fail
  obtain ⟨v7, hr7, O7, hg7⟩ := O6.update (val := .int .i64 4) lawS mapU (by unfold maxLen; omega) k7 (plainElem_int Tryz.underlying3 (WalkArith.wf_i64 (by omega)))
  rw [hr7]
  go_wp2_with fail
  go_ret
  have B0 : Below w.heap.size w v0 := B.trans (grown_below hg0 B.size)
  have B1 : Below w.heap.size w v1 := B0.trans (grown_below hg1 B0.size)
  have B2 : Below w.heap.size w v2 := B1.trans (grown_below hg2 B1.size)
  have B3 : Below w.heap.size w v3 := B2.trans (grown_below hg3 B2.size)
  have B4 : Below w.heap.size w v4 := B3.trans (grown_below hg4 B3.size)
  have B5 : Below w.heap.size w v5 := B4.trans (grown_below hg5 B4.size)
  have B6 : Below w.heap.size w v6 := B5.trans (grown_below hg6 B5.size)
  have B7 : Below w.heap.size w v7 := B6.trans (grown_below hg7 B6.size)
  exact ⟨rfl, O7, B7⟩

theorem want_at (s : ByteArray) : Maps.has wantD (.string s.data.toList) = decide (wantN s ≠ -1) ∧ wantD.atKey (.string s.data.toList) (.lit (.int .i64 0)) = .lit (.int .i64 (if wantN s = -1 then 0 else wantN s)) := by
  have h0 : Rel (.map [] : DataW Unit) (fun _ => false) (fun _ => 0) 0 := ⟨tidy_empty, fun _ => rfl, fun _ => rfl, rfl⟩
  have h8 := ((((((((h0.put wExtend.data.toList 2).put wDigest.data.toList 1).put wMeasure.data.toList 1).put wRaise.data.toList 2).put wMay.data.toList 2).put wPublic.data.toList 1).put wSign.data.toList 3).put wCheck.data.toList 4)
  show Maps.has wantD (.string s.data.toList) = _ ∧ _
  have e : wantD = (((((((((.map [] : DataW Unit).put (.string wExtend.data.toList) (.lit (.int .i64 2))).put (.string wDigest.data.toList) (.lit (.int .i64 1))).put (.string wMeasure.data.toList) (.lit (.int .i64 1))).put (.string wRaise.data.toList) (.lit (.int .i64 2))).put (.string wMay.data.toList) (.lit (.int .i64 2))).put (.string wPublic.data.toList) (.lit (.int .i64 1))).put (.string wSign.data.toList) (.lit (.int .i64 3))).put (.string wCheck.data.toList) (.lit (.int .i64 4))) := rfl
  rw [e]
  by_cases g0 : s = wExtend
  · subst g0
    exact ⟨by rw [h8.has]; decide, by rw [h8.val]; exact congrArg (fun z => DataW.lit (.int .i64 z)) (by decide)⟩
  by_cases g1 : s = wDigest
  · subst g1
    exact ⟨by rw [h8.has]; decide, by rw [h8.val]; exact congrArg (fun z => DataW.lit (.int .i64 z)) (by decide)⟩
  by_cases g2 : s = wMeasure
  · subst g2
    exact ⟨by rw [h8.has]; decide, by rw [h8.val]; exact congrArg (fun z => DataW.lit (.int .i64 z)) (by decide)⟩
  by_cases g3 : s = wRaise
  · subst g3
    exact ⟨by rw [h8.has]; decide, by rw [h8.val]; exact congrArg (fun z => DataW.lit (.int .i64 z)) (by decide)⟩
  by_cases g4 : s = wMay
  · subst g4
    exact ⟨by rw [h8.has]; decide, by rw [h8.val]; exact congrArg (fun z => DataW.lit (.int .i64 z)) (by decide)⟩
  by_cases g5 : s = wPublic
  · subst g5
    exact ⟨by rw [h8.has]; decide, by rw [h8.val]; exact congrArg (fun z => DataW.lit (.int .i64 z)) (by decide)⟩
  by_cases g6 : s = wSign
  · subst g6
    exact ⟨by rw [h8.has]; decide, by rw [h8.val]; exact congrArg (fun z => DataW.lit (.int .i64 z)) (by decide)⟩
  by_cases g7 : s = wCheck
  · subst g7
    exact ⟨by rw [h8.has]; decide, by rw [h8.val]; exact congrArg (fun z => DataW.lit (.int .i64 z)) (by decide)⟩
  have f : ∀ w : ByteArray, s ≠ w → ¬ s.data.toList = w.data.toList := fun w h e => h (bytes_ext e)
  have hw : wantN s = -1 := by unfold wantN; rw [if_neg g0, if_neg g1, if_neg g2, if_neg g3, if_neg g4, if_neg g5, if_neg g6, if_neg g7]
  rw [hw]
  constructor
  · rw [h8.has]
    simp only [beq_eq_false_iff_ne.2 (f _ g0), beq_eq_false_iff_ne.2 (f _ g1), beq_eq_false_iff_ne.2 (f _ g2), beq_eq_false_iff_ne.2 (f _ g3), beq_eq_false_iff_ne.2 (f _ g4), beq_eq_false_iff_ne.2 (f _ g5), beq_eq_false_iff_ne.2 (f _ g6), beq_eq_false_iff_ne.2 (f _ g7), Bool.false_or]
    decide
  · rw [h8.val]
    simp only [if_neg (f _ g0), if_neg (f _ g1), if_neg (f _ g2), if_neg (f _ g3), if_neg (f _ g4), if_neg (f _ g5), if_neg (f _ g6), if_neg (f _ g7)]
    rfl

end Go.Proofs.YtegiffdlfpdbkaaGreatDoor
