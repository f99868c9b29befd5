/- run: a line of a session, answered. -/
import Derived.Test.YtegiffdlfpdbkaaGreatDoorRows
import Derived.Test.YtegiffdlfpdbkaaGreatDoorNum
import Derived.Test.YtegiffdlfpdbkaaGreatDoorBase
import Derived.Test.YtegiffdlfpdbkaaGreatDoorApp
import Derived.Test.YtegiffdlfpdbkaaGreatDoorFoot
import Derived.Test.YtegiffdlfpdbkaaGreatDoorImg
import Derived.Test.YtegiffdlfpdbkaaGreatDoorCount
import Derived.Test.YtegiffdlfpdbkaaGreatDoorCntP
import Derived.Test.YtegiffdlfpdbkaaGreatDoorCntC
import Derived.Test.YtegiffdlfpdbkaaGreatDoorNumP
import Derived.Test.YtegiffdlfpdbkaaGreatDoorParse
import Derived.Test.YtegiffdlfpdbkaaGreatDoorRefCut
import Derived.Test.YtegiffdlfpdbkaaGreatDoorRefNum
import Derived.Test.YtegiffdlfpdbkaaGreatDoorRunP
import Derived.Test.YtegiffdlfpdbkaaGreatDoorRunL
import Derived.Test.YtegiffdlfpdbkaaGreatDoorRunS
import Derived.Test.YtegiffdlfpdbkaaGreatDoorRun1
import Derived.Test.YtegiffdlfpdbkaaGreatDoorRun2
import Derived.Test.YtegiffdlfpdbkaaGreatDoorRun3
import Derived.Test.YtegiffdlfpdbkaaGreatDoorRun4
import Derived.Test.YtegiffdlfpdbkaaGreatDoorRun5
import Derived.Test.YtegiffdlfpdbkaaGreatDoorRun6
import Derived.Test.YtegiffdlfpdbkaaGreatDoorRun7
import Derived.Test.YtegiffdlfpdbkaaGreatDoorLiftT
import Derived.WalkKit
import Derived.WalkSpells
import Derived.WalkLawsBesides
import Derived.Lib.Hide
import Derived.BigQuiet
import Derived.Deep.QuietTactic
import Derived.Deep.RegionHeld3
import Derived.Deep.DeepCutAuto
import Derived.Maps.OwnSet
import Derived.Maps.OwnOps
import Derived.Maps.Views
import Derived.OwnWalk
import Derived.StringKeys
namespace Go.Proofs.YtegiffdlfpdbkaaGreatDoor
open Go.RowKit Go.Maps Go.WideMaps
set_option maxRecDepth 100000
set_option linter.unusedVariables false
set_option linter.unusedSimpArgs false

theorem str_beq2 (a b : ByteArray) : (a.toList == b.data.toList) = decide (a = b) := by
  have h := str_beq a b
  rw [list_bytes b] at h
  exact h
theorem wants_look (s : ByteArray) (w : World) (hs : s.size ≤ 3000) :
    Calls Tryz.prog 46 #[] w fun e w' => e = .returned (.map (some w.heap.size)) ∧ (Instr.lookup 71 (.map (some w.heap.size)) (.string s) true).run Tryz.prog w' = .ok (.tuple #[.int .i64 (if wantN s = -1 then 0 else wantN s), .bool (decide (wantN s ≠ -1))]) w' ∧ Below w.heap.size w w' := by
  refine (wants_any w).mono ?_
  rintro e w' ⟨rfl, hO, hb⟩
  refine ⟨rfl, ?_, hb⟩
  have hkey := keyOf_string_mk (P := Tryz.prog) Tryz.underlying9 (s := s) (by unfold maxLen; omega)
  obtain ⟨v, ps, hrun, hv⟩ := hO.look_ok lawS mapU (zeroI _) (plainElem_int Tryz.underlying3 (by decide)) hkey
  obtain ⟨h1, h2⟩ := want_at s
  obtain ⟨c, rfl, hc, hwc⟩ := plainElem_int_inv Tryz.underlying3 hv
  rw [h1] at hrun
  rw [hrun]
  have e1 : wantD.atKey (.string s.data.toList) (.lit (.int .i64 0)) = .lit (.int .i64 c) := congrArg Prod.fst hc
  rw [h2] at e1
  injection e1 with e1
  injection e1 with _ e1
  rw [e1]

theorem splitRes_below (w : World) (s : ByteArray) : Below w.heap.size w (splitRes w s) := grow_alloc (grow_refl _) _
theorem splitRes_at (w : World) (s : ByteArray) : CellsAt (splitRes w s) (some ⟨w.heap.size, 0, none⟩) (strCells (wordsB s)) := CellsAt.new_ w 9 ((wordsB s).map Value.string) (0, 0)
theorem cells_tail {w : World} {b k : Nat} {cs : List Value} (h : CellsAt w (some ⟨b, 0, none⟩) cs) : CellsAt w (some ⟨b, k, none⟩) (cs.drop k) := fun j u hu => by
  rw [List.getElem?_drop] at hu
  obtain ⟨b1, o1, e, lt, hc⟩ := h (k + j) u hu
  injection e with e
  injection e with e1 e2 _
  subst e1 e2
  refine ⟨b, k, rfl, lt, ?_⟩
  rw [Nat.zero_add] at hc
  exact hc
theorem cells_word {w : World} {b : Nat} {ws : List ByteArray} (h : CellsAt w (some ⟨b, 0, none⟩) (strCells ws)) (k : Nat) (hk : k < ws.length) : b < w.heap.size ∧ w.cell? ⟨b, k, none⟩ = some (.string (ws.getD k tNil)) := by
  obtain ⟨b1, o1, e, lt, hc⟩ := h k (.string (ws.getD k tNil)) (by
    unfold strCells
    rw [List.getElem?_map, List.getElem?_eq_getElem hk, List.getD_eq_getElem?_getD, List.getElem?_eq_getElem hk]; rfl)
  injection e with e
  injection e with e1 e2 _
  subst e1 e2
  rw [Nat.zero_add] at hc
  exact ⟨lt, hc⟩

theorem bad_neq (w : World) : (binOp .neq 50 badV .nilIface).run Tryz.prog w = .ok (.bool true) w := by kernel_rfl
theorem bad_guard (o : Nat) (w : World) : (eqGuard .neq 50 (.tmp o) (.const .nilIface) badV .nilIface).run Tryz.prog w = .ok () w := by kernel_rfl
theorem nil_neq (w : World) : (binOp .neq 50 .nilIface .nilIface).run Tryz.prog w = .ok (.bool false) w := by kernel_rfl
theorem nil_guard (o : Nat) (w : World) : (eqGuard .neq 50 (.tmp o) (.const .nilIface) .nilIface .nilIface).run Tryz.prog w = .ok () w := by kernel_rfl
def LinePost (w : World) (g b N : Nat) (out : ByteArray × Dsk) (e : Ending) (w' : World) : Prop := SaidP out.1 e ∧ DeskAt w' g b (N + 1) out.2 ∧ But (fun k => k = g ∨ k = b) w w'

theorem line_bad {w w' : World} {g b N : Nat} {d : Dsk} {r : ByteArray × Dsk} (hr : r = (tBad, d)) (h : DeskAt w g b N d) (hb : Below w.heap.size w w') : LinePost w g b N r (.returned (.tuple #[.string { data := #[] }, badV])) w' := by
  subst hr
  exact ⟨Or.inr (Or.inr ⟨_, rfl, rfl⟩), (h.below hb).mono (Nat.le_succ N), below_but hb _⟩
theorem line_word {w w1 w' : World} {g b N : Nat} {r : ByteArray × Dsk} {e : Ending} (hb : Below w.heap.size w w1) (h : WordPost w1 g b N r e w') : LinePost w g b N r e w' :=
  ⟨h.1, h.2.1, (below_but hb _).trans h.2.2 (fun _ _ h => h)⟩

set_option maxHeartbeats 4000000 in
theorem line_any (w : World) (g b N : Nat) (d : Dsk) (s : ByteArray) (h : DeskAt w g b N d) (hs : s.size ≤ 3000) (hN : N ≤ 900000) (hE : ∀ w', But (fun k => k = g ∨ k = b) w w' → ReadT w' ∧ UnreadT w') :
    Calls Tryz.prog 33 #[.pointer (some ⟨g, 0, none⟩), .string s] w (LinePost w g b N (lineR d (wordsB s))) := by
  have hgl : g < w.heap.size := h.1.lt
  have hbl : b < w.heap.size := by obtain ⟨_, ⟨n, _, D, a1, _⟩, _⟩ := h; have := a1.lt; omega
  have HE := Lib.hid hE
  have HD := Lib.hid h
  have HS := Lib.hid (split_any s w (by omega) (hE w (But.refl _ _)).1)
  rw [← wlen] at HS
  have hw1 := splitRes_below w s
  have hc1 := splitRes_at w s
  obtain ⟨w1, hw1e⟩ : ∃ w1, splitRes w s = w1 := ⟨_, rfl⟩
  rw [hw1e] at hw1 hc1 HS
  have hwz := fun i hi => word_at s i hi
  obtain ⟨hl1, hl2⟩ := words_le s
  obtain ⟨ws, hws⟩ : ∃ ws, wordsB s = ws := ⟨_, rfl⟩
  rw [hws] at hc1 hwz hl1 hl2 HS ⊢
  obtain ⟨w0, hw0⟩ : ∃ w0, ws.getD 0 tNil = w0 := ⟨_, rfl⟩
  obtain ⟨lh, c0⟩ := cells_word hc1 0 (by omega)
  rw [hw0] at c0
  have hz0 : w0.size ≤ 3000 := by rw [← hw0]; exact Nat.le_trans (hwz 0 (by omega)) hs
  obtain ⟨L, hL⟩ : ∃ L, ws.length = L := ⟨_, rfl⟩
  rw [hL] at HS hl1 hl2
  obtain ⟨hb, hhb⟩ : ∃ hb, w.heap.size = hb := ⟨_, rfl⟩
  rw [hhb] at HS c0 hc1 lh
  have HHB := Lib.hid hhb
  have HW0 := Lib.hid hw0
  have HL := Lib.hid hL
  have HC1 := Lib.hid hc1
  have HWZ := Lib.hid (fun i hi => Nat.le_trans (hwz i hi) hs)
  have HW1 := Lib.hid hw1
  have HLK := Lib.hid (fun w => wants_look w0 w hz0)
  obtain ⟨C, hC⟩ : ∃ C, (if wantN w0 = -1 then 0 else wantN w0) = C := ⟨_, rfl⟩
  obtain ⟨B, hB⟩ : ∃ B, decide (wantN w0 ≠ -1) = B := ⟨_, rfl⟩
  rw [hC, hB] at HLK
  have HBC : Hid ((B = true → C = wantN w0) ∧ (B = false → wantN w0 = -1)) := Lib.hid (by
    rw [← hB, ← hC]
    constructor
    · intro h1
      rw [if_neg (of_decide_eq_true h1)]
    · intro h1
      exact Decidable.not_not.1 (of_decide_eq_false h1))
  have c0d : w1.drew.cell? ⟨hb, 0, none⟩ = some (.string w0) := c0
  have hgL : (0 : Int) < (L : Int) := by omega
  have hgL2 : 0 < L := by omega
  have HLZ := Lib.hid (And.intro (show L ≤ 3001 by omega) hl2)
  clear hw1e hws hC hB hhb hw0 hL hw1 hc1 hwz hs h hE hl1 hl2
  go_enter Tryz.func33, Tryz.ntmps33
  go_wp2_with fail
  refine HS.out.mono ?_
  rintro e w1' ⟨rfl, q1⟩
  obtain rfl : w1 = w1' := q1.symm
  go_upto_region 2 with fail
  have GW := grow_drew (grow_refl w1)
  go_region_held3 (fun w' => w'.cell? ⟨hb, 0, none⟩ = some (.string w0))
    (first
      | exact c0
      | exact c0d
      | exact (GW.cell (p := ⟨hb, 0, none⟩) lh).trans c0
      | (go_keep; done))
    (first
      | (go_at_call 46; refine (HLK.out _).mono ?_; rintro e w5 ⟨rfl, hlook0, hb5⟩; have hlook : (Instr.lookup 71 (.map (some w1.heap.size)) (.string w0) true).run Tryz.prog w5 = .ok (.tuple #[.int .i64 C, .bool B]) w5 := hlook0; have GW := grow_step GW hb5))
  have hW5 : Below w.heap.size w w5 := grow_step HW1.out GW
  have HW5 := Lib.hid hW5
  have HC5 := Lib.hid (HC1.out.below GW)
  have lh5 : hb < w5.heap.size := (cells_word HC5.out 0 (by rw [HL.out]; exact hgL2)).1
  have hu : w5.cell? ⟨0, 0, none⟩ = some (.iface 79 (.int .i64 2)) := (HE.out _ (below_but hW5 _)).2
  have lu := World.block_lt_of_cell? w5 _ hu
  obtain ⟨hlz1, hlz2⟩ := HLZ.out
  have hL1 : (1 : Int) ≤ (L : Int) := by omega
  have hL2 : (L : Int) ≤ 3001 := by omega
  clear hlook hlook0 c0 c0d GW hb5 q1 HS lh
  cases B with
  | false =>
    have HBAD : Hid (lineR d ws = (tBad, d)) := Lib.hid (by unfold lineR; rw [HW0.out, HBC.out.2 rfl, HL.out, if_neg (show ¬ ((L : Int) - 1 = -1) from by omega)])
    go_wp2_with fail
    go_quiet (fail)
    go_wp2_with fail
    go_ret2
    exact line_bad HBAD.out HD.out (grow_drewN HW5.out _)
  | true =>
    have hCw : C = wantN w0 := HBC.out.1 rfl
    have HCW := Lib.hid hCw
    clear hCw
    by_cases hLC : (L : Int) - 1 = C
    rotate_left
    · have HBAD : Hid (lineR d ws = (tBad, d)) := Lib.hid (by unfold lineR; rw [HW0.out, HL.out, ← HCW.out, if_neg hLC])
      have t1 : ((L : Int) - 1 != C) = true := by simpa using hLC
      go_wp2_with fail
      go_quiet (fail)
      go_wp2_with fail
      go_ret2
      exact line_bad HBAD.out HD.out (grow_drewN HW5.out _)
    have t1 : ((L : Int) - 1 != C) = false := by simpa using hLC
    have HLC := Lib.hid hLC
    clear hLC
    obtain ⟨M1, hM1⟩ : ∃ M1, decide (w0 = wMeasure) = M1 := ⟨_, rfl⟩
    obtain ⟨M2, hM2⟩ : ∃ M2, decide (w0 = wRaise) = M2 := ⟨_, rfl⟩
    obtain ⟨M3, hM3⟩ : ∃ M3, decide (w0 = wMay) = M3 := ⟨_, rfl⟩
    have m1 : (w0.toList == [109, 101, 97, 115, 117, 114, 101]) = M1 := by rw [← hM1]; exact str_beq2 w0 wMeasure
    have m2 : (w0.toList == [114, 97, 105, 115, 101]) = M2 := by rw [← hM2]; exact str_beq2 w0 wRaise
    have m3 : (w0.toList == [109, 97, 121]) = M3 := by rw [← hM3]; exact str_beq2 w0 wMay
    have HNM : Hid (isNamed w0 = (M1 || (M2 || M3))) := Lib.hid (by unfold isNamed; rw [hM1, hM2, hM3])
    clear hM1 hM2 hM3
    have hC0 : w5.cell? ⟨hb, 0, none⟩ = some (.string w0) := by have := (cells_word HC5.out 0 (by rw [HL.out]; exact hgL2)).2; rw [HW0.out] at this; exact this
    go_upto_region 5 with fail
    go_cut [9] (fun z wx => z = .bool (isNamed w0) ∧ wx = w5)
    case first =>
      cases M1 <;> cases M2 <;> cases M3 <;>
        (go_wp2_with fail
         go_meet
         exact ⟨by rw [HNM.out]; rfl, rfl⟩)
    case rest =>
      obtain ⟨rfl, q⟩ := hcut
      obtain rfl : w5 = wc := q.symm
      clear m1 m2 m3 q HNM
      have HHG := Lib.hid (And.intro hgl hbl)
      cases hnm : isNamed w0 with
      | false =>
        have HNM := Lib.hid hnm
        have HNUM := Lib.hid (numbers_any (some ⟨hb, 1, none⟩) (L - 1) (ws.drop 1) w5 (by have := cells_tail (k := 1) HC5.out; unfold strCells at this ⊢; rw [List.map_drop]; exact this)
          (fun i hi => by
            rw [List.length_drop] at hi
            have h1 := HWZ.out (1 + i) (by omega)
            rw [List.getD_eq_getElem?_getD, List.getElem?_drop, ← List.getD_eq_getElem?_getD]
            omega)
          (by rw [List.length_drop, HL.out]; omega) (HE.out _ (below_but HW5.out _)).1 (HE.out _ (below_but HW5.out _)).2)
        rw [List.length_drop, HL.out] at HNUM
        unfold NumsPost at HNUM
        have HLR : Hid (lineR d ws = (match numsOf (ws.drop 1) with | some ns => plainR d w0 ns | none => (tBad, d))) := Lib.hid (by
          unfold lineR
          rw [HW0.out, HL.out, if_pos (HLC.out.trans HCW.out), HNM.out, if_neg (by decide)]
          cases numsOf (ws.drop 1) <;> rfl)
        have bn := bad_neq
        have bg := bad_guard
        have nn := nil_neq
        have ng := nil_guard
        have HNL : Hid ((ws.drop 1).length = L - 1) := Lib.hid (by rw [List.length_drop, HL.out])
        obtain ⟨ds, hds⟩ : ∃ ds, ws.drop 1 = ds := ⟨_, rfl⟩
        rw [hds] at HNUM HLR HNL
        have hL2' : 2 ≤ L := by
          have h1 := HLC.out.trans HCW.out
          have h2 : wantN w0 = -1 ∨ 1 ≤ wantN w0 := by unfold wantN; (repeat' split) <;> omega
          omega
        have l1 : ¬ L ≤ 1 := by omega
        have l2 : ¬ L - 1 = 0 := by omega
        have l3 : ¬ L = 1 := by omega
        have l4 : (1 : Int) < (L : Int) := by omega
        have l5 : 1 < L := by omega
        clear hnm hds hL2'
        cases hno : numsOf ds with
        | none =>
          have HNO := Lib.hid hno
          have HBAD : Hid (lineR d ws = (tBad, d)) := Lib.hid (by rw [HLR.out, HNO.out])
          clear hno
          go_wp2_with fail
          refine HNUM.out.mono ?_
          rintro e w6 ⟨_, hn, hb6⟩
          obtain rfl := hn HNO.out
          have hW6 : Below w.heap.size w w6 := grow_step HW5.out hb6
          clear hb6 hn
          go_wp2_with fail
          go_ret2
          exact line_bad HBAD.out HD.out hW6
        | some ns =>
          have HNO := Lib.hid hno
          have HOUT : Hid (lineR d ws = plainR d w0 ns) := Lib.hid (by rw [HLR.out, HNO.out])
          clear hno
          go_wp2_with fail
          refine HNUM.out.mono ?_
          rintro e w6 ⟨hn, _, hb6⟩
          obtain ⟨A, cp, rfl, hA⟩ := hn ns HNO.out
          have hW6 : Below w.heap.size w w6 := grow_step HW5.out hb6
          have c0 := (hb6.cell (p := ⟨hb, 0, none⟩) lh5).trans hC0
          have lh6 := Nat.lt_of_lt_of_le lh5 hb6.size
          have hwl : (ns.length : Int) = wantN w0 := by
            have h1 := numsOf_len HNO.out
            have h2 := HNL.out
            have h3 := HLC.out
            have h4 := HCW.out
            omega
          have HP := Lib.hid (plain_any w6 g b N d w0 A cp ns (HD.out.below hW6) hA.ints (fun a ha => by
              have h1 := hA.2
              rcases h1 with ⟨h2, _⟩ | ⟨g1, cap, cur, hv, hg, _⟩
              · cases h2.symm.trans (by rw [ha])
              · have h3 := HHG.out.1
                have h4 := HW5.out.size
                injection hv with hv
                rw [ha] at hv
                injection hv with hv
                rw [hv]
                show g1 ≠ g
                omega) (fun i => (numsOf_at HNO.out i).1) hwl HNM.out (fun w' hk => (HE.out _ ((below_but hW6 _).trans hk (fun _ _ h => h))).1.1))
          have HW6 := Lib.hid hW6
          clear hb6 hn hA hwl hW6
          go_wp2_with fail
          refine HP.out.mono ?_
          intro e w7 hp
          obtain ⟨s2, x2, rfl, hsd⟩ := said_pair hp.1
          have HP7 := Lib.hid hp
          clear hp hsd
          go_wp2_with fail
          go_ret2
          rw [HOUT.out]
          exact line_word HW6.out HP7.out
      | true =>
        have HNM := Lib.hid hnm
        have hL2' : 2 ≤ L := by
          have h1 := HLC.out.trans HCW.out
          have h2 : wantN w0 = -1 ∨ 1 ≤ wantN w0 := by unfold wantN; (repeat' split) <;> omega
          omega
        have HNUM : Hid (∀ off : Nat, (L = 2 ∨ off = 2) → Calls Tryz.prog 47 #[.slice (some ⟨hb, off, none⟩) (L - 2) (L - 2)] w5 (NumsPost (ws.drop 2) w5)) := Lib.hid (fun off ho => by
          have h1 := numbers_any (some ⟨hb, off, none⟩) (L - 2) (ws.drop 2) w5 (by
              rcases ho with ho | ho
              · rw [List.drop_of_length_le (by rw [HL.out]; omega)]
                intro j u hu
                cases hu
              · subst ho
                have := cells_tail (k := 2) HC5.out; unfold strCells at this ⊢; rw [List.map_drop]; exact this)
            (fun i hi => by
              rw [List.length_drop] at hi
              have h1 := HWZ.out (2 + i) (by omega)
              rw [List.getD_eq_getElem?_getD, List.getElem?_drop, ← List.getD_eq_getElem?_getD]
              omega)
            (by rw [List.length_drop, HL.out]; omega) (HE.out _ (below_but HW5.out _)).1 (HE.out _ (below_but HW5.out _)).2
          rw [List.length_drop, HL.out] at h1
          exact h1)
        unfold NumsPost at HNUM
        obtain ⟨nm, hn1⟩ : ∃ nm, ws.getD 1 tNil = nm := ⟨_, rfl⟩
        have HLR : Hid (lineR d ws = (match numsOf (ws.drop 2) with | some ns => (if nm.size = 0 then (tBad, d) else namedR d w0 nm ns) | none => (tBad, d))) := Lib.hid (by
          unfold lineR
          rw [HW0.out, HL.out, if_pos (HLC.out.trans HCW.out), HNM.out, if_pos rfl, hn1]
          cases numsOf (ws.drop 2) <;> rfl)
        have hC1 : w5.cell? ⟨hb, 1, none⟩ = some (.string nm) := by have := (cells_word HC5.out 1 (by rw [HL.out]; omega)).2; rw [hn1] at this; exact this
        have HNZ : Hid (nm.size ≤ 3000) := Lib.hid (by rw [← hn1]; exact HWZ.out 1 (by rw [HL.out]; omega))
        have bn := bad_neq
        have bg := bad_guard
        have nn := nil_neq
        have ng := nil_guard
        have HNL : Hid ((ws.drop 2).length = L - 2) := Lib.hid (by rw [List.length_drop, HL.out])
        obtain ⟨ds, hds⟩ : ∃ ds, ws.drop 2 = ds := ⟨_, rfl⟩
        rw [hds] at HNUM HLR HNL
        have l4 : (2 : Int) ≤ (L : Int) := by omega
        have l5 : 1 < L := by omega
        have l6 : (1 : Int) < (L : Int) := by omega
        clear hnm hds hn1
        go_upto_region 11 with fail
        go_cut [12, 13] (fun z y wx => (numsOf ds = none ∧ y = badV ∨ ∃ ns A cp, numsOf ds = some ns ∧ z = .slice A ns.length cp ∧ y = .nilIface ∧ OwnI wx w5.heap.size A cp ns) ∧ Below w5.heap.size w5 wx)
        case first =>
          by_cases l2 : L = 2
          · have HL2 := Lib.hid l2
            have HN2 := Lib.hid (fun off => HNUM.out off (Or.inl l2))
            subst l2
            go_wp2_with fail
            refine (HN2.out _).mono ?_
            rintro e w6 ⟨hn1, hn2, hb6⟩
            cases hno : numsOf ds with
            | none =>
              obtain rfl := hn2 hno
              clear hn1 hn2
              go_wp2_with fail
              go_meet
              exact ⟨Or.inl ⟨hno, rfl⟩, hb6⟩
            | some ns =>
              obtain ⟨A, cp, rfl, hA⟩ := hn1 ns hno
              clear hn1 hn2
              go_wp2_with fail
              go_meet
              exact ⟨Or.inr ⟨ns, A, cp, hno, rfl, rfl, hA⟩, hb6⟩
          · have HN2 := Lib.hid (HNUM.out 2 (Or.inr rfl))
            have l7 : ¬ L ≤ 2 := by omega
            have l8 : ¬ L - 2 = 0 := by omega
            have l9 : (2 : Int) < (L : Int) := by omega
            have l0 : 2 < L := by omega
            go_wp2_with fail
            refine HN2.out.mono ?_
            rintro e w6 ⟨hn1, hn2, hb6⟩
            cases hno : numsOf ds with
            | none =>
              obtain rfl := hn2 hno
              clear hn1 hn2
              go_wp2_with fail
              go_meet
              exact ⟨Or.inl ⟨hno, rfl⟩, hb6⟩
            | some ns =>
              obtain ⟨A, cp, rfl, hA⟩ := hn1 ns hno
              clear hn1 hn2
              go_wp2_with fail
              go_meet
              exact ⟨Or.inr ⟨ns, A, cp, hno, rfl, rfl, hA⟩, hb6⟩
        case rest =>
          obtain ⟨hor, hb6⟩ := hcut
          obtain ⟨w6, rfl⟩ : ∃ w6, wc = w6 := ⟨_, rfl⟩
          have hW6 : Below w.heap.size w wc := grow_step HW5.out hb6
          have HW6 := Lib.hid hW6
          have hu : wc.cell? ⟨0, 0, none⟩ = some (.iface 79 (.int .i64 2)) := (HE.out _ (below_but hW6 _)).2
          have lu := World.block_lt_of_cell? wc _ hu
          have c0 := (hb6.cell (p := ⟨hb, 0, none⟩) lh5).trans hC0
          have c1 := (hb6.cell (p := ⟨hb, 1, none⟩) lh5).trans hC1
          have lh6 := Nat.lt_of_lt_of_le lh5 hb6.size
          clear hC0 hC1 hb6 hW6 HNUM
          rcases hor with ⟨hno, rfl⟩ | ⟨ns, A, cp, hno, rfl, rfl, hA⟩
          · have HBAD : Hid (lineR d ws = (tBad, d)) := Lib.hid (by rw [HLR.out, hno])
            clear hno
            go_wp2_with fail
            go_quiet (fail)
            go_wp2_with fail
            go_ret2
            exact line_bad HBAD.out HD.out (grow_drewN HW6.out _)
          · have HA := Lib.hid hA
            have HNO := Lib.hid hno
            clear hA hno
            by_cases hz : nm.size = 0
            · have t2 : (nm.toList == []) = true := by
                have h1 := str_beq2 nm tNil
                rw [decide_eq_true (show nm = tNil from bytes_ext (by rw [List.eq_nil_of_length_eq_zero (show nm.data.toList.length = 0 by simpa using hz)]))] at h1
                exact h1
              have HBAD : Hid (lineR d ws = (tBad, d)) := Lib.hid (by rw [HLR.out, HNO.out]; exact if_pos hz)
              clear hz
              go_wp2_with fail
              go_quiet (fail)
              go_wp2_with fail
              go_ret2
              exact line_bad HBAD.out HD.out (grow_drewN HW6.out _)
            · have t2 : (nm.toList == []) = false := by
                have h1 := str_beq2 nm tNil
                rw [decide_eq_false (show ¬ nm = tNil from fun e => hz (by rw [e]; rfl))] at h1
                exact h1
              have HOUT : Hid (lineR d ws = namedR d w0 nm ns) := Lib.hid (by rw [HLR.out, HNO.out]; exact if_neg hz)
              have hwl : (ns.length : Int) + 1 = wantN w0 := by
                have h1 := numsOf_len HNO.out
                have h2 := HNL.out
                have h3 := HLC.out
                have h4 := HCW.out
                omega
              have HP := Lib.hid (named_any wc.drew g b N d w0 nm A cp ns (HD.out.below (grow_drew HW6.out)) (HA.out.below (grow_drew (grow_refl _))).ints (fun a ha => by
                have h1 := HA.out.2
                rcases h1 with ⟨h2, _⟩ | ⟨g1, cap, cur, hv, hg, _⟩
                · cases h2.symm.trans (by rw [ha])
                · have h3 := HHG.out.2
                  have h4 := HW5.out.size
                  injection hv with hv
                  rw [ha] at hv
                  injection hv with hv
                  rw [hv]
                  show g1 ≠ b
                  omega) HNZ.out hN hwl HNM.out (HE.out _ (below_but (grow_drew HW6.out) _)).1.1)
              have hgg : ¬ (hb = g ∨ hb = b) := by have h1 := HHG.out; have h2 := HHB.out; omega
              clear hz hwl
              go_upto_region 14 with fail
              go_region_held3 (fun w' => w'.cell? ⟨hb, 0, none⟩ = some (.string w0) ∧ w'.cell? ⟨hb, 1, none⟩ = some (.string nm))
                (first
                  | exact ⟨c0, c1⟩
                  | exact ⟨d0, d1⟩
                  | (go_keep; done))
                (first
                  | (go_at_call 49; refine HP.out.mono ?_; intro e w7 hp; have d0 : w7.cell? ⟨hb, 0, none⟩ = some (.string w0) := (World.cell?_of_block (hp.2.2.block hb lh6 hgg)).trans c0; have d1 : w7.cell? ⟨hb, 1, none⟩ = some (.string nm) := (World.cell?_of_block (hp.2.2.block hb lh6 hgg)).trans c1; obtain ⟨s2, x2, rfl, hsd⟩ := said_pair hp.1; have HP7 := Lib.hid hp; clear hsd hp))
              go_wp2_with fail
              go_ret2
              rw [HOUT.out]
              exact line_word (grow_drew HW6.out) HP7.out

end Go.Proofs.YtegiffdlfpdbkaaGreatDoor
