/- The reference's desk: any line. -/
import Derived.Test.YtegiffdlfpdbkaaGreatDoorRows
import Derived.Test.YtegiffdlfpdbkaaGreatDoorNum
import Derived.Test.YtegiffdlfpdbkaaGreatDoorBase
import Derived.Test.YtegiffdlfpdbkaaGreatDoorApp
import Derived.Test.YtegiffdlfpdbkaaGreatDoorFoot
import Derived.Test.YtegiffdlfpdbkaaGreatDoorImg
import Derived.Test.YtegiffdlfpdbkaaGreatDoorCntP
import Derived.Test.YtegiffdlfpdbkaaGreatDoorNumP
import Derived.Test.YtegiffdlfpdbkaaGreatDoorParse
import Derived.Test.YtegiffdlfpdbkaaGreatDoorRefA
import Derived.Test.YtegiffdlfpdbkaaGreatDoorRefB
import Derived.Test.YtegiffdlfpdbkaaGreatDoorRefI
import Derived.Test.YtegiffdlfpdbkaaGreatDoorRefK
import Derived.Test.YtegiffdlfpdbkaaGreatDoorRefL
import Derived.Test.YtegiffdlfpdbkaaGreatDoorRefCut
import Derived.Test.YtegiffdlfpdbkaaGreatDoorRefNum
import Derived.Test.YtegiffdlfpdbkaaGreatDoorCutW
import Derived.Test.YtegiffdlfpdbkaaGreatDoorRCntD
import Derived.Test.YtegiffdlfpdbkaaGreatDoorRunP
import Derived.Test.YtegiffdlfpdbkaaGreatDoorRunL
import Derived.Test.YtegiffdlfpdbkaaGreatDoorRunS
import Derived.Test.YtegiffdlfpdbkaaGreatDoorRunT
import Derived.Test.YtegiffdlfpdbkaaGreatDoorRun1
import Derived.Test.YtegiffdlfpdbkaaGreatDoorRun3
import Derived.Test.YtegiffdlfpdbkaaGreatDoorRun4
import Derived.Test.YtegiffdlfpdbkaaGreatDoorRun5
import Derived.Test.YtegiffdlfpdbkaaGreatDoorDLine0
import Derived.Test.YtegiffdlfpdbkaaGreatDoorDLExtend
import Derived.Test.YtegiffdlfpdbkaaGreatDoorDLSign
import Derived.WalkKit
import Derived.WalkSpells
import Derived.WalkLawsBesides
import Derived.Lib.Hide
import Derived.BigQuiet
import Derived.Deep.QuietTactic
import Derived.Deep.RegionHeld3
import Derived.Deep.DeepCutAuto
namespace Go.Proofs.YtegiffdlfpdbkaaGreatDoor
open Go.RowKit
set_option maxRecDepth 100000
set_option linter.unusedVariables false
set_option linter.unusedSimpArgs false

set_option maxHeartbeats 4000000 in
theorem line_digest (w : World) (g lb : Nat) (d : Dsk) (s : ByteArray) (h : RDA w g lb d) (hlb : lb < w.heap.size) (hs : s.size ≤ 3000) (hw0 : (wordsB s).getD 0 tNil = wDigest) (hL : (wordsB s).length = 2) :
    Calls Tryz.prog 8 #[.pointer (some ⟨g, 0, none⟩), .string s] w (LQ w g lb (lineR d (wordsB s))) := by
  have HCU := Lib.hid (fun w => rCutW s w (by omega))
  rw [hL] at HCU
  have hwz : ∀ i, i < 2 → ((wordsB s).getD i tNil).size ≤ 3000 := fun i hi => Nat.le_trans (word_at s i (by omega)) hs
  have HNUM := Lib.hid (fun (s : ByteArray) (w : World) (h : s.size ≤ 3000) => rNumber_k 7 (Nat.le_refl 7) s w (by omega))
  have HD := Lib.hid h
  have HLB := Lib.hid (And.intro h.lt hlb)
  obtain ⟨ws, hws⟩ : ∃ ws, wordsB s = ws := ⟨_, rfl⟩
  rw [hws] at HCU hwz hw0 hL ⊢
  have HLR : Hid (lineR d ws = (match numsOf (ws.drop 1) with | some ns => plainR d wDigest ns | none => (tBad, d))) := Lib.hid (by
    unfold lineR
    rw [hw0, hL, if_pos (by decide), if_neg (by decide)]
    cases numsOf (ws.drop 1) <;> rfl)
  have HDL : Hid ((ws.drop 1).length = 1) := Lib.hid (by rw [List.length_drop, hL])
  obtain ⟨ds, hds⟩ : ∃ ds, ws.drop 1 = ds := ⟨_, rfl⟩
  have HDS : Hid (∀ i, ds.getD i tNil = ws.getD (1 + i) tNil) := Lib.hid (fun i => by rw [← hds, List.getD_eq_getElem?_getD, List.getElem?_drop, ← List.getD_eq_getElem?_getD])
  rw [hds] at HLR HDL
  have HW0 := Lib.hid hw0
  have HL := Lib.hid hL
  have HWZ := Lib.hid hwz
  clear h hlb hs hw0 hL hwz hws hds
  go_enter Tryz.func8, Tryz.ntmps8
  go_wp2_with fail
  refine (HCU.out _).mono ?_
  rintro e w1 ⟨A, cp, rfl, hC, hbase, hb1⟩
  obtain ⟨b0, off, rfl, lb0, hc⟩ := cells_words hC (by rw [HL.out]; omega)
  have HBS : Hid (w.heap.size ≤ b0) := Lib.hid (hbase _ rfl)
  clear hbase
  have HC1 := Lib.hid hc
  have c0 : w1.cell? ⟨b0, off, none⟩ = some (.string wDigest) := by
    have h1 := hc 0 (by rw [HL.out]; omega)
    rw [HW0.out] at h1
    exact h1
  have HW1 := Lib.hid hb1
  clear hc hC hb1
  go_wp2_with fail
  go_loopw [9, 10, 11, 12] (fun n i _ _ wr => ∃ (k n1 : Nat) (A1 : Option Addr) (cc : Nat) (ns : List Int), n = .slice A1 n1 cc ∧ i = .int .i64 ((k + 1 : Nat) : Int) ∧ k ≤ 1 ∧ n1 ≤ 4 ∧ Hid (n1 = ns.length) ∧ Hid (ns.length = k) ∧ Hid (numsOf (ds.take k) = some ns) ∧ Hid (OwnI wr w1.heap.size A1 cc ns) ∧ Below w1.heap.size w1 wr) (fun _ i _ _ _ => 2 - (intOf i).toNat)
  case atStart => exact ⟨0, 0, none, 0, [], rfl, rfl, by omega, by omega, Lib.hid rfl, Lib.hid rfl, Lib.hid rfl, Lib.hid (OwnI.start _ _), grow_refl _⟩
  case round =>
    obtain ⟨k, n1, A1, cc, ns, rfl, rfl, hk, hn1, HN1, HNK, HNS, HO, hb⟩ := hrel
    by_cases hlt : k < 1
    · have g1 : ((k + 1 : Nat) : Int) < 2 := by omega
      obtain ⟨t, ht⟩ : ∃ t, ds.getD k tNil = t := ⟨_, rfl⟩
      have hkd : k < ds.length := by rw [HDL.out]; exact hlt
      have hls : ds = ds.take k ++ t :: ds.drop (k + 1) := by
        have h1 := (List.take_append_drop k ds).symm
        rw [drop_cons ds tNil k hkd, ht] at h1
        exact h1
      have ct : wr.cell? ⟨b0, off + (k + 1), none⟩ = some (.string t) := by
        have h1 := HC1.out (1 + k) (by rw [HL.out]; omega)
        rw [← HDS.out, ht, Nat.add_comm 1 k] at h1
        exact (hb.cell (p := ⟨b0, off + (k + 1), none⟩) lb0).trans h1
      have lbr := Nat.lt_of_lt_of_le lb0 hb.size
      have htz : t.size ≤ 3000 := by rw [← ht, HDS.out]; exact HWZ.out _ (by omega)
      have HNT := Lib.hid (HNUM.out t wr htz)
      have HTK : Hid (ds.take (k + 1) = ds.take k ++ [t]) := Lib.hid (by
        rw [List.take_succ_eq_append_getElem hkd, ← ht, List.getD_eq_getElem?_getD, List.getElem?_eq_getElem hkd]; rfl)
      have HLS := Lib.hid hls
      clear ht hls hkd htz
      cases hok : (numK 7 t).2
      · rw [hok] at HNT
        have HBAD : Hid (lineR d ws = (tBad, d)) := Lib.hid (by
          rw [HLR.out, show numsOf ds = none from by rw [HLS.out]; exact numsOf_bad hok])
        clear hok
        go_wp2_with fail
        refine HNT.out.mono ?_
        rintro e w2 ⟨rfl, q⟩
        obtain rfl : wr = w2 := q
        have hWr := grow_step HW1.out hb
        go_wp2_with fail
        go_ret
        exact lq_same HBAD.out HD.out hWr
      · rw [hok] at HNT
        have HOK := Lib.hid hok
        obtain ⟨v, hv⟩ : ∃ v, (numK 7 t).1 = v := ⟨_, rfl⟩
        rw [hv] at HNT
        have HV := Lib.hid hv
        obtain rfl : n1 = ns.length := HN1.out
        clear hok hv
        go_wp2_with fail
        refine HNT.out.mono ?_
        rintro e w2 ⟨rfl, q⟩
        obtain rfl : wr = w2 := q
        go_wp2_with (at_builtin; refine app_ints rfl _ _ rfl w1.heap.size A1 cc ns rfl (HO.out.below ((Below.refl _ _).alloc (Nat.le_refl _) _)) _ 1 [v] rfl (IntsAt.new_ _ _ [v] _) (by simp; omega) (grow_alloc hb _).size ?_; intro A2 c2 zs2 w3 hz2 ho2 hb2)
        have hw3 : Below w1.heap.size w1 w3 := grow_base (grow_alloc hb _) hb2
        go_roundw
        case rel =>
          refine ⟨k + 1, zs2.length, A2, c2, zs2, rfl, by go_num, by omega, by rw [hz2.out]; simp; have := HNK.out; omega, Lib.hid rfl, Lib.hid (by rw [hz2.out]; simp; exact HNK.out), Lib.hid ?_, Lib.hid ho2, hw3⟩
          rw [HTK.out, numsOf_app, HNS.out, numsOf_one HOK.out HV.out.symm, hz2.out]; rfl
        case measure => simp only [intOf]; omega
    · have hkk : k = 1 := by omega
      subst hkk
      have hall : numsOf ds = some ns := by
        have h1 := HNS.out
        rw [List.take_of_length_le (by rw [HDL.out]; omega)] at h1
        exact h1
      have hnl : ns.length = 1 := HNK.out
      obtain rfl : n1 = ns.length := HN1.out
      have hnb := numsOf_at hall
      obtain ⟨x, rfl⟩ : ∃ x, ns = [x] := by
        match ns, hnl with
        | [x], _ => exact ⟨x, rfl⟩
      have HOUT : Hid (lineR d ws = plainR d wDigest [x]) := Lib.hid (by rw [HLR.out, hall])
      have bx : 0 ≤ x ∧ x ≤ 9999999 := hnb 0
      obtain ⟨b1, o1, rfl, lb1, hcn⟩ : ∃ b1 o1, A1 = some ⟨b1, o1, none⟩ ∧ b1 < wr.heap.size ∧ ∀ j, j < 1 → wr.cell? ⟨b1, o1 + j, none⟩ = some (.int .i64 (([x] : List Int).getD j 0)) := by
        obtain ⟨b1, o1, e1, l1, h1⟩ := HO.out.ints 0 (by simp)
        subst e1
        exact ⟨b1, o1, rfl, l1, fun j hj => ints_cell HO.out.ints j hj⟩
      have HB1 : Hid (w1.heap.size ≤ b1) := Lib.hid (by
        rcases HO.out.2 with ⟨h2, _⟩ | ⟨g1, cap, cur, hv, hg, _⟩
        · cases h2
        · injection hv with hv
          injection hv with hv
          injection hv with hv
          omega)
      have n0 : wr.cell? ⟨b1, o1, none⟩ = some (.int .i64 x) := hcn 0 (by omega)
      have c0r := (hb.cell (p := ⟨b0, off, none⟩) lb0).trans c0
      have lbr := Nat.lt_of_lt_of_le lb0 hb.size
      have HWr := Lib.hid (grow_step HW1.out hb)
      have HDR := Lib.hid (HD.out.below HWr.out)
      clear hlt hall hnl hnb hk hn1 HN1 HNK HNS HO c0 hb hcn
      by_cases hx : 255 < x
      · have HNA := Lib.hid (fun w => name_any 1 (by decide) (by decide) w)
        have HR : Hid (lineR d ws = (errN 1, d)) := Lib.hid (by
          rw [HOUT.out]
          unfold plainR
          rw [if_neg (by decide), if_pos rfl]
          show (sayI (digM d.bank x) (digE d.bank x), d) = _
          have e1 : digE d.bank x = 1 := by
            unfold digE okMask
            rw [decide_eq_false (show ¬ (0 ≤ x ∧ x ≤ 255) by omega), Bool.and_false]; rfl
          rw [e1]; rfl)
        clear bx
        go_wp2_with fail
        refine (HNA.out _).mono ?_
        rintro e w2 ⟨rfl, hb2⟩
        go_wp2_with fail
        go_ret
        exact lq_same HR.out HD.out (grow_step HWr.out hb2)
      · obtain ⟨⟨y0, y1, y2, y3, y4, y5, y6, y7, hbk, A', c', hbx, hown, hat⟩, hok⟩ := HDR.out
        have hall2 := hok.ok
        rw [hbk] at hall2
        have HDG := Lib.hid (fun w => rDigest_any y0 y1 y2 y3 y4 y5 y6 y7 x w bx.1 (by omega) hall2)
        have mb : 0 ≤ isM [y0, y1, y2, y3, y4, y5, y6, y7] x ∧ isM [y0, y1, y2, y3, y4, y5, y6, y7] x ≤ 1000002 := by unfold isM; exact okM_yes (rowM_ok _)
        have HDI := Lib.hid (fun w => rDigits_any (isM [y0, y1, y2, y3, y4, y5, y6, y7] x) w (by omega) (by omega))
        have HR : Hid (lineR d ws = (itoaS (isM [y0, y1, y2, y3, y4, y5, y6, y7] x), d)) := Lib.hid (by
          rw [HOUT.out]
          unfold plainR
          rw [if_neg (by decide), if_pos rfl]
          show (sayI (digM d.bank x) (digE d.bank x), d) = _
          have e0 : (d.bank.all okM && okMask x) = true := by
            unfold okMask
            rw [hok.ok, decide_eq_true (show 0 ≤ x ∧ x ≤ 255 by omega)]; rfl
          have e1 : digE d.bank x = 0 := by unfold digE; rw [e0]; rfl
          have e2 : digM d.bank x = isM [y0, y1, y2, y3, y4, y5, y6, y7] x := by unfold digM; rw [e0, hbk]; rfl
          rw [e1, e2]; rfl)
        obtain ⟨P, hP⟩ : ∃ P, isM [y0, y1, y2, y3, y4, y5, y6, y7] x = P := ⟨_, rfl⟩
        rw [hP] at HDG HDI HR
        have HB := Lib.hid hbx
        have cB := hbx.cell
        have lB := hbx.lt
        have HN0 := Lib.hid n0
        have GW := grow_drew (grow_refl wr)
        clear hall2 mb hP hbx hown hat hok bx hbk
        go_upto_region 46 with fail
        go_region_held3 (fun w' => (∀ i, w'.cell? ⟨g, i, none⟩ = (#[.slice A' d.cnt.length c', .int .i64 y0, .int .i64 y1, .int .i64 y2, .int .i64 y3, .int .i64 y4, .int .i64 y5, .int .i64 y6, .int .i64 y7] : Array Value)[i]?) ∧ w'.cell? ⟨b1, o1, none⟩ = some (.int .i64 x))
          (first
            | exact ⟨(HB.out.below GW).cell, (GW.cell (p := ⟨b1, o1, none⟩) lb1).trans HN0.out⟩
            | (go_keep; done))
          (first
            | (go_at_call 20; refine (HDG.out _).mono ?_; rintro e w5 ⟨rfl, hb5⟩; have GW := grow_step GW hb5)
            | (go_at_call 9; refine (HDI.out _).mono ?_; rintro e w6 ⟨rfl, rfl⟩))
        have hWe := grow_step HWr.out GW
        go_wp2_with fail
        go_ret
        exact lq_same HR.out HD.out hWe

set_option maxHeartbeats 4000000 in
theorem line_public (w : World) (g lb : Nat) (d : Dsk) (s : ByteArray) (h : RDA w g lb d) (hlb : lb < w.heap.size) (hs : s.size ≤ 3000) (hw0 : (wordsB s).getD 0 tNil = wPublic) (hL : (wordsB s).length = 2) :
    Calls Tryz.prog 8 #[.pointer (some ⟨g, 0, none⟩), .string s] w (LQ w g lb (lineR d (wordsB s))) := by
  have HCU := Lib.hid (fun w => rCutW s w (by omega))
  rw [hL] at HCU
  have hwz : ∀ i, i < 2 → ((wordsB s).getD i tNil).size ≤ 3000 := fun i hi => Nat.le_trans (word_at s i (by omega)) hs
  have HNUM := Lib.hid (fun (s : ByteArray) (w : World) (h : s.size ≤ 3000) => rNumber_k 7 (Nat.le_refl 7) s w (by omega))
  have HD := Lib.hid h
  have HLB := Lib.hid (And.intro h.lt hlb)
  obtain ⟨ws, hws⟩ : ∃ ws, wordsB s = ws := ⟨_, rfl⟩
  rw [hws] at HCU hwz hw0 hL ⊢
  have HLR : Hid (lineR d ws = (match numsOf (ws.drop 1) with | some ns => plainR d wPublic ns | none => (tBad, d))) := Lib.hid (by
    unfold lineR
    rw [hw0, hL, if_pos (by decide), if_neg (by decide)]
    cases numsOf (ws.drop 1) <;> rfl)
  have HDL : Hid ((ws.drop 1).length = 1) := Lib.hid (by rw [List.length_drop, hL])
  obtain ⟨ds, hds⟩ : ∃ ds, ws.drop 1 = ds := ⟨_, rfl⟩
  have HDS : Hid (∀ i, ds.getD i tNil = ws.getD (1 + i) tNil) := Lib.hid (fun i => by rw [← hds, List.getD_eq_getElem?_getD, List.getElem?_drop, ← List.getD_eq_getElem?_getD])
  rw [hds] at HLR HDL
  have HW0 := Lib.hid hw0
  have HL := Lib.hid hL
  have HWZ := Lib.hid hwz
  clear h hlb hs hw0 hL hwz hws hds
  go_enter Tryz.func8, Tryz.ntmps8
  go_wp2_with fail
  refine (HCU.out _).mono ?_
  rintro e w1 ⟨A, cp, rfl, hC, hbase, hb1⟩
  obtain ⟨b0, off, rfl, lb0, hc⟩ := cells_words hC (by rw [HL.out]; omega)
  have HBS : Hid (w.heap.size ≤ b0) := Lib.hid (hbase _ rfl)
  clear hbase
  have HC1 := Lib.hid hc
  have c0 : w1.cell? ⟨b0, off, none⟩ = some (.string wPublic) := by
    have h1 := hc 0 (by rw [HL.out]; omega)
    rw [HW0.out] at h1
    exact h1
  have HW1 := Lib.hid hb1
  clear hc hC hb1
  go_wp2_with fail
  go_loopw [9, 10, 11, 12] (fun n i _ _ wr => ∃ (k n1 : Nat) (A1 : Option Addr) (cc : Nat) (ns : List Int), n = .slice A1 n1 cc ∧ i = .int .i64 ((k + 1 : Nat) : Int) ∧ k ≤ 1 ∧ n1 ≤ 4 ∧ Hid (n1 = ns.length) ∧ Hid (ns.length = k) ∧ Hid (numsOf (ds.take k) = some ns) ∧ Hid (OwnI wr w1.heap.size A1 cc ns) ∧ Below w1.heap.size w1 wr) (fun _ i _ _ _ => 2 - (intOf i).toNat)
  case atStart => exact ⟨0, 0, none, 0, [], rfl, rfl, by omega, by omega, Lib.hid rfl, Lib.hid rfl, Lib.hid rfl, Lib.hid (OwnI.start _ _), grow_refl _⟩
  case round =>
    obtain ⟨k, n1, A1, cc, ns, rfl, rfl, hk, hn1, HN1, HNK, HNS, HO, hb⟩ := hrel
    by_cases hlt : k < 1
    · have g1 : ((k + 1 : Nat) : Int) < 2 := by omega
      obtain ⟨t, ht⟩ : ∃ t, ds.getD k tNil = t := ⟨_, rfl⟩
      have hkd : k < ds.length := by rw [HDL.out]; exact hlt
      have hls : ds = ds.take k ++ t :: ds.drop (k + 1) := by
        have h1 := (List.take_append_drop k ds).symm
        rw [drop_cons ds tNil k hkd, ht] at h1
        exact h1
      have ct : wr.cell? ⟨b0, off + (k + 1), none⟩ = some (.string t) := by
        have h1 := HC1.out (1 + k) (by rw [HL.out]; omega)
        rw [← HDS.out, ht, Nat.add_comm 1 k] at h1
        exact (hb.cell (p := ⟨b0, off + (k + 1), none⟩) lb0).trans h1
      have lbr := Nat.lt_of_lt_of_le lb0 hb.size
      have htz : t.size ≤ 3000 := by rw [← ht, HDS.out]; exact HWZ.out _ (by omega)
      have HNT := Lib.hid (HNUM.out t wr htz)
      have HTK : Hid (ds.take (k + 1) = ds.take k ++ [t]) := Lib.hid (by
        rw [List.take_succ_eq_append_getElem hkd, ← ht, List.getD_eq_getElem?_getD, List.getElem?_eq_getElem hkd]; rfl)
      have HLS := Lib.hid hls
      clear ht hls hkd htz
      cases hok : (numK 7 t).2
      · rw [hok] at HNT
        have HBAD : Hid (lineR d ws = (tBad, d)) := Lib.hid (by
          rw [HLR.out, show numsOf ds = none from by rw [HLS.out]; exact numsOf_bad hok])
        clear hok
        go_wp2_with fail
        refine HNT.out.mono ?_
        rintro e w2 ⟨rfl, q⟩
        obtain rfl : wr = w2 := q
        have hWr := grow_step HW1.out hb
        go_wp2_with fail
        go_ret
        exact lq_same HBAD.out HD.out hWr
      · rw [hok] at HNT
        have HOK := Lib.hid hok
        obtain ⟨v, hv⟩ : ∃ v, (numK 7 t).1 = v := ⟨_, rfl⟩
        rw [hv] at HNT
        have HV := Lib.hid hv
        obtain rfl : n1 = ns.length := HN1.out
        clear hok hv
        go_wp2_with fail
        refine HNT.out.mono ?_
        rintro e w2 ⟨rfl, q⟩
        obtain rfl : wr = w2 := q
        go_wp2_with (at_builtin; refine app_ints rfl _ _ rfl w1.heap.size A1 cc ns rfl (HO.out.below ((Below.refl _ _).alloc (Nat.le_refl _) _)) _ 1 [v] rfl (IntsAt.new_ _ _ [v] _) (by simp; omega) (grow_alloc hb _).size ?_; intro A2 c2 zs2 w3 hz2 ho2 hb2)
        have hw3 : Below w1.heap.size w1 w3 := grow_base (grow_alloc hb _) hb2
        go_roundw
        case rel =>
          refine ⟨k + 1, zs2.length, A2, c2, zs2, rfl, by go_num, by omega, by rw [hz2.out]; simp; have := HNK.out; omega, Lib.hid rfl, Lib.hid (by rw [hz2.out]; simp; exact HNK.out), Lib.hid ?_, Lib.hid ho2, hw3⟩
          rw [HTK.out, numsOf_app, HNS.out, numsOf_one HOK.out HV.out.symm, hz2.out]; rfl
        case measure => simp only [intOf]; omega
    · have hkk : k = 1 := by omega
      subst hkk
      have hall : numsOf ds = some ns := by
        have h1 := HNS.out
        rw [List.take_of_length_le (by rw [HDL.out]; omega)] at h1
        exact h1
      have hnl : ns.length = 1 := HNK.out
      obtain rfl : n1 = ns.length := HN1.out
      have hnb := numsOf_at hall
      obtain ⟨x, rfl⟩ : ∃ x, ns = [x] := by
        match ns, hnl with
        | [x], _ => exact ⟨x, rfl⟩
      have HOUT : Hid (lineR d ws = plainR d wPublic [x]) := Lib.hid (by rw [HLR.out, hall])
      have bx : 0 ≤ x ∧ x ≤ 9999999 := hnb 0
      obtain ⟨b1, o1, rfl, lb1, hcn⟩ : ∃ b1 o1, A1 = some ⟨b1, o1, none⟩ ∧ b1 < wr.heap.size ∧ ∀ j, j < 1 → wr.cell? ⟨b1, o1 + j, none⟩ = some (.int .i64 (([x] : List Int).getD j 0)) := by
        obtain ⟨b1, o1, e1, l1, h1⟩ := HO.out.ints 0 (by simp)
        subst e1
        exact ⟨b1, o1, rfl, l1, fun j hj => ints_cell HO.out.ints j hj⟩
      have HB1 : Hid (w1.heap.size ≤ b1) := Lib.hid (by
        rcases HO.out.2 with ⟨h2, _⟩ | ⟨g1, cap, cur, hv, hg, _⟩
        · cases h2
        · injection hv with hv
          injection hv with hv
          injection hv with hv
          omega)
      have n0 : wr.cell? ⟨b1, o1, none⟩ = some (.int .i64 x) := hcn 0 (by omega)
      have c0r := (hb.cell (p := ⟨b0, off, none⟩) lb0).trans c0
      have lbr := Nat.lt_of_lt_of_le lb0 hb.size
      have HWr := Lib.hid (grow_step HW1.out hb)
      have HDR := Lib.hid (HD.out.below HWr.out)
      clear hlt hall hnl hnb hk hn1 HN1 HNK HNS HO c0 hb hcn
      have HSEC := Lib.hid (fun w => rSecret_any x w)
      cases hx : okSecret x
      · rw [hx] at HSEC
        have HNA := Lib.hid (fun w => name_any 1 (by decide) (by decide) w)
        have HR : Hid (lineR d ws = (errN 1, d)) := Lib.hid (by
          rw [HOUT.out]
          unfold plainR
          rw [if_neg (by decide), if_neg (by decide), if_pos rfl]
          show (sayI (pubM x) (pubE x), d) = _
          rw [pubE_no hx]; rfl)
        clear hx bx
        go_wp2_with fail
        refine (HSEC.out _).mono ?_
        rintro e w2 ⟨rfl, q⟩
        obtain rfl : wr = w2 := q
        go_wp2_with fail
        refine (HNA.out _).mono ?_
        rintro e w2 ⟨rfl, hb2⟩
        go_wp2_with fail
        go_ret
        exact lq_same HR.out HD.out (grow_step HWr.out hb2)
      · rw [hx] at HSEC
        have hxb := okSecret_yes hx
        have HPO := Lib.hid (fun w => rPower_any 64 x w (by decide) (by decide) (by omega) (by omega))
        have pb := pwI_bd 64 x
        have HDI := Lib.hid (fun w => rDigits_any (pwI 64 x) w (by omega) (by omega))
        have HR : Hid (lineR d ws = (itoaS (pwI 64 x), d)) := Lib.hid (by
          rw [HOUT.out]
          unfold plainR
          rw [if_neg (by decide), if_neg (by decide), if_pos rfl]
          show (sayI (pubM x) (pubE x), d) = _
          rw [pubE_yes hx, pubM_yes hx]; rfl)
        obtain ⟨P, hP⟩ : ∃ P, pwI 64 x = P := ⟨_, rfl⟩
        rw [hP] at HPO HDI HR
        clear hx bx hxb pb hP
        go_wp2_with fail
        refine (HSEC.out _).mono ?_
        rintro e w2 ⟨rfl, q⟩
        obtain rfl : wr = w2 := q
        go_wp2_with fail
        refine (HPO.out _).mono ?_
        rintro e w2 ⟨rfl, q⟩
        obtain rfl : wr = w2 := q
        go_wp2_with fail
        refine (HDI.out _).mono ?_
        rintro e w2 ⟨rfl, q⟩
        obtain rfl : wr = w2 := q
        go_wp2_with fail
        go_ret
        exact lq_same HR.out HD.out HWr.out

set_option maxHeartbeats 4000000 in
theorem line_measure (w : World) (g lb : Nat) (d : Dsk) (s : ByteArray) (h : RDA w g lb d) (hlb : lb < w.heap.size) (hs : s.size ≤ 3000) (hw0 : (wordsB s).getD 0 tNil = wMeasure) (hL : (wordsB s).length = 2) :
    Calls Tryz.prog 8 #[.pointer (some ⟨g, 0, none⟩), .string s] w (LQ w g lb (lineR d (wordsB s))) := by
  have HCU := Lib.hid (fun w => rCutW s w (by omega))
  rw [hL] at HCU
  have hwz : ∀ i, i < 2 → ((wordsB s).getD i tNil).size ≤ 3000 := fun i hi => Nat.le_trans (word_at s i (by omega)) hs
  have HNUM := Lib.hid (fun (s : ByteArray) (w : World) (h : s.size ≤ 3000) => rNumber_k 7 (Nat.le_refl 7) s w (by omega))
  have HD := Lib.hid h
  have HLB := Lib.hid (And.intro h.lt hlb)
  obtain ⟨ws, hws⟩ : ∃ ws, wordsB s = ws := ⟨_, rfl⟩
  rw [hws] at HCU hwz hw0 hL ⊢
  have HLR : Hid (lineR d ws = (match numsOf (ws.drop 2) with | some ns => (if (ws.getD 1 tNil).size = 0 then (tBad, d) else namedR d wMeasure (ws.getD 1 tNil) ns) | none => (tBad, d))) := Lib.hid (by
    unfold lineR
    rw [hw0, hL, if_pos (by decide), if_pos (by decide)]
    cases numsOf (ws.drop 2) <;> rfl)
  have HDL : Hid ((ws.drop 2).length = 0) := Lib.hid (by rw [List.length_drop, hL])
  obtain ⟨ds, hds⟩ : ∃ ds, ws.drop 2 = ds := ⟨_, rfl⟩
  have HDS : Hid (∀ i, ds.getD i tNil = ws.getD (2 + i) tNil) := Lib.hid (fun i => by rw [← hds, List.getD_eq_getElem?_getD, List.getElem?_drop, ← List.getD_eq_getElem?_getD])
  rw [hds] at HLR HDL
  have HW0 := Lib.hid hw0
  have HL := Lib.hid hL
  have HWZ := Lib.hid hwz
  clear h hlb hs hw0 hL hwz hws hds
  go_enter Tryz.func8, Tryz.ntmps8
  go_wp2_with fail
  refine (HCU.out _).mono ?_
  rintro e w1 ⟨A, cp, rfl, hC, hbase, hb1⟩
  obtain ⟨b0, off, rfl, lb0, hc⟩ := cells_words hC (by rw [HL.out]; omega)
  have HBS : Hid (w.heap.size ≤ b0) := Lib.hid (hbase _ rfl)
  clear hbase
  have HC1 := Lib.hid hc
  have c0 : w1.cell? ⟨b0, off, none⟩ = some (.string wMeasure) := by
    have h1 := hc 0 (by rw [HL.out]; omega)
    rw [HW0.out] at h1
    exact h1
  obtain ⟨nm, hnm⟩ : ∃ nm, ws.getD 1 tNil = nm := ⟨_, rfl⟩
  have c1 : w1.cell? ⟨b0, off + 1, none⟩ = some (.string nm) := by
    have h1 := hc 1 (by rw [HL.out]; omega)
    rw [hnm] at h1
    exact h1
  have HNZ : Hid (nm.size ≤ 3000) := Lib.hid (by rw [← hnm]; exact HWZ.out 1 (by omega))
  rw [hnm] at HLR
  have HW1 := Lib.hid hb1
  clear hc hC hb1 hnm
  by_cases hz : nm.size = 0
  · have t2 : (nm.toList == []) = true := by
      have h1 := str_beq nm tNil
      rw [decide_eq_true (show nm = tNil from bytes_ext (by rw [List.eq_nil_of_length_eq_zero (show nm.data.toList.length = 0 by simpa using hz)])), list_bytes tNil] at h1
      exact h1
    have HBAD : Hid (lineR d ws = (tBad, d)) := Lib.hid (by
      rw [HLR.out]
      cases numsOf ds with
      | none => rfl
      | some ns => exact if_pos hz)
    clear hz
    go_wp2_with fail
    go_ret
    exact lq_same HBAD.out HD.out HW1.out
  have t2 : (nm.toList == []) = false := by
    have h1 := str_beq nm tNil
    rw [decide_eq_false (show ¬ nm = tNil from fun e => hz (by rw [e]; rfl)), list_bytes tNil] at h1
    exact h1
  have HZ := Lib.hid hz
  clear hz
  go_wp2_with fail
  go_loopw [9, 10, 11, 12] (fun n i _ _ wr => ∃ (k n1 : Nat) (A1 : Option Addr) (cc : Nat) (ns : List Int), n = .slice A1 n1 cc ∧ i = .int .i64 ((k + 2 : Nat) : Int) ∧ k ≤ 0 ∧ n1 ≤ 4 ∧ Hid (n1 = ns.length) ∧ Hid (ns.length = k) ∧ Hid (numsOf (ds.take k) = some ns) ∧ Hid (OwnI wr w1.heap.size A1 cc ns) ∧ Below w1.heap.size w1 wr) (fun _ i _ _ _ => 2 - (intOf i).toNat)
  case atStart => exact ⟨0, 0, none, 0, [], rfl, rfl, by omega, by omega, Lib.hid rfl, Lib.hid rfl, Lib.hid rfl, Lib.hid (OwnI.start _ _), grow_refl _⟩
  case round =>
    obtain ⟨k, n1, A1, cc, ns, rfl, rfl, hk, hn1, HN1, HNK, HNS, HO, hb⟩ := hrel
    by_cases hlt : k < 0
    · exact absurd hlt (by omega)
    · have hkk : k = 0 := by omega
      subst hkk
      have hall : numsOf ds = some ns := by
        have h1 := HNS.out
        rw [List.take_of_length_le (by rw [HDL.out]; omega)] at h1
        exact h1
      have hnl : ns.length = 0 := HNK.out
      obtain rfl : n1 = ns.length := HN1.out
      have hnb := numsOf_at hall
      obtain rfl : ns = [] := List.eq_nil_of_length_eq_zero hnl
      have HOUT : Hid (lineR d ws = namedR d wMeasure nm []) := Lib.hid (by rw [HLR.out, hall]; exact if_neg HZ.out)
      have c0r := (hb.cell (p := ⟨b0, off, none⟩) lb0).trans c0
      have c1r := (hb.cell (p := ⟨b0, off + 1, none⟩) lb0).trans c1
      have lbr := Nat.lt_of_lt_of_le lb0 hb.size
      have HWr := Lib.hid (grow_step HW1.out hb)
      have HDR := Lib.hid (HD.out.below HWr.out)
      clear hlt hall hnl hnb hk hn1 HN1 HNK HNS HO c0 hb c1
      by_cases hx : 24 < nm.size
      · have HNA := Lib.hid (fun w => name_any 4 (by decide) (by decide) w)
        have hx2 : (24 : Int) < (nm.size : Int) := by omega
        have hlen : nm.data.toList.length = nm.size := by simp
        have HR : Hid (lineR d ws = (errN 4, d)) := Lib.hid (by
          rw [HOUT.out]
          unfold namedR
          rw [if_neg (by decide), if_neg (by decide)]
          have e1 : ofE nm.data.toList = 4 := by unfold ofE; rw [if_pos (by omega)]
          rw [e1]; rfl)
        clear hx hlen
        go_wp2_with fail
        refine (HNA.out _).mono ?_
        rintro e w2 ⟨rfl, hb2⟩
        go_wp2_with fail
        go_ret
        exact lq_same HR.out HD.out (grow_step HWr.out hb2)
      · have hx2 : ¬ (24 : Int) < (nm.size : Int) := by omega
        have hlen : nm.data.toList.length = nm.size := by simp
        have HTX := Lib.hid (fun w => rText_any nm w (by omega))
        have tb := okM_yes (textM_ok nm.data.toList)
        have HDI := Lib.hid (fun w => rDigits_any (textM nm.data.toList) w (by omega) (by omega))
        have HR : Hid (lineR d ws = (itoaS (textM nm.data.toList), d)) := Lib.hid (by
          rw [HOUT.out]
          unfold namedR
          rw [if_neg (by decide), if_neg (by decide)]
          have e1 : ofE nm.data.toList = 0 := by unfold ofE; rw [if_neg (by omega)]
          have e2 : ofM nm.data.toList = textM nm.data.toList := by unfold ofM; rw [if_neg (by omega)]
          rw [e1, e2]; rfl)
        obtain ⟨P, hP⟩ : ∃ P, textM nm.data.toList = P := ⟨_, rfl⟩
        rw [hP] at HTX HDI HR
        clear hx hlen tb hP
        go_wp2_with fail
        refine (HTX.out _).mono ?_
        rintro e w2 ⟨rfl, q⟩
        obtain rfl : wr = w2 := q
        go_wp2_with fail
        refine (HDI.out _).mono ?_
        rintro e w2 ⟨rfl, q⟩
        obtain rfl : wr = w2 := q
        go_wp2_with fail
        go_ret
        exact lq_same HR.out HD.out HWr.out

set_option maxHeartbeats 4000000 in
theorem line_raise (w : World) (g lb : Nat) (d : Dsk) (s : ByteArray) (h : RDA w g lb d) (hlb : lb < w.heap.size) (hs : s.size ≤ 3000) (hw0 : (wordsB s).getD 0 tNil = wRaise) (hL : (wordsB s).length = 3) :
    Calls Tryz.prog 8 #[.pointer (some ⟨g, 0, none⟩), .string s] w (LQ w g lb (lineR d (wordsB s))) := by
  have HCU := Lib.hid (fun w => rCutW s w (by omega))
  rw [hL] at HCU
  have hwz : ∀ i, i < 3 → ((wordsB s).getD i tNil).size ≤ 3000 := fun i hi => Nat.le_trans (word_at s i (by omega)) hs
  have HNUM := Lib.hid (fun (s : ByteArray) (w : World) (h : s.size ≤ 3000) => rNumber_k 7 (Nat.le_refl 7) s w (by omega))
  have HD := Lib.hid h
  have HLB := Lib.hid (And.intro h.lt hlb)
  obtain ⟨ws, hws⟩ : ∃ ws, wordsB s = ws := ⟨_, rfl⟩
  rw [hws] at HCU hwz hw0 hL ⊢
  have HLR : Hid (lineR d ws = (match numsOf (ws.drop 2) with | some ns => (if (ws.getD 1 tNil).size = 0 then (tBad, d) else namedR d wRaise (ws.getD 1 tNil) ns) | none => (tBad, d))) := Lib.hid (by
    unfold lineR
    rw [hw0, hL, if_pos (by decide), if_pos (by decide)]
    cases numsOf (ws.drop 2) <;> rfl)
  have HDL : Hid ((ws.drop 2).length = 1) := Lib.hid (by rw [List.length_drop, hL])
  obtain ⟨ds, hds⟩ : ∃ ds, ws.drop 2 = ds := ⟨_, rfl⟩
  have HDS : Hid (∀ i, ds.getD i tNil = ws.getD (2 + i) tNil) := Lib.hid (fun i => by rw [← hds, List.getD_eq_getElem?_getD, List.getElem?_drop, ← List.getD_eq_getElem?_getD])
  rw [hds] at HLR HDL
  have HW0 := Lib.hid hw0
  have HL := Lib.hid hL
  have HWZ := Lib.hid hwz
  clear h hlb hs hw0 hL hwz hws hds
  go_enter Tryz.func8, Tryz.ntmps8
  go_wp2_with fail
  refine (HCU.out _).mono ?_
  rintro e w1 ⟨A, cp, rfl, hC, hbase, hb1⟩
  obtain ⟨b0, off, rfl, lb0, hc⟩ := cells_words hC (by rw [HL.out]; omega)
  have HBS : Hid (w.heap.size ≤ b0) := Lib.hid (hbase _ rfl)
  clear hbase
  have HC1 := Lib.hid hc
  have c0 : w1.cell? ⟨b0, off, none⟩ = some (.string wRaise) := by
    have h1 := hc 0 (by rw [HL.out]; omega)
    rw [HW0.out] at h1
    exact h1
  obtain ⟨nm, hnm⟩ : ∃ nm, ws.getD 1 tNil = nm := ⟨_, rfl⟩
  have c1 : w1.cell? ⟨b0, off + 1, none⟩ = some (.string nm) := by
    have h1 := hc 1 (by rw [HL.out]; omega)
    rw [hnm] at h1
    exact h1
  have HNZ : Hid (nm.size ≤ 3000) := Lib.hid (by rw [← hnm]; exact HWZ.out 1 (by omega))
  rw [hnm] at HLR
  have HW1 := Lib.hid hb1
  clear hc hC hb1 hnm
  by_cases hz : nm.size = 0
  · have t2 : (nm.toList == []) = true := by
      have h1 := str_beq nm tNil
      rw [decide_eq_true (show nm = tNil from bytes_ext (by rw [List.eq_nil_of_length_eq_zero (show nm.data.toList.length = 0 by simpa using hz)])), list_bytes tNil] at h1
      exact h1
    have HBAD : Hid (lineR d ws = (tBad, d)) := Lib.hid (by
      rw [HLR.out]
      cases numsOf ds with
      | none => rfl
      | some ns => exact if_pos hz)
    clear hz
    go_wp2_with fail
    go_ret
    exact lq_same HBAD.out HD.out HW1.out
  have t2 : (nm.toList == []) = false := by
    have h1 := str_beq nm tNil
    rw [decide_eq_false (show ¬ nm = tNil from fun e => hz (by rw [e]; rfl)), list_bytes tNil] at h1
    exact h1
  have HZ := Lib.hid hz
  clear hz
  go_wp2_with fail
  go_loopw [9, 10, 11, 12] (fun n i _ _ wr => ∃ (k n1 : Nat) (A1 : Option Addr) (cc : Nat) (ns : List Int), n = .slice A1 n1 cc ∧ i = .int .i64 ((k + 2 : Nat) : Int) ∧ k ≤ 1 ∧ n1 ≤ 4 ∧ Hid (n1 = ns.length) ∧ Hid (ns.length = k) ∧ Hid (numsOf (ds.take k) = some ns) ∧ Hid (OwnI wr w1.heap.size A1 cc ns) ∧ Below w1.heap.size w1 wr) (fun _ i _ _ _ => 3 - (intOf i).toNat)
  case atStart => exact ⟨0, 0, none, 0, [], rfl, rfl, by omega, by omega, Lib.hid rfl, Lib.hid rfl, Lib.hid rfl, Lib.hid (OwnI.start _ _), grow_refl _⟩
  case round =>
    obtain ⟨k, n1, A1, cc, ns, rfl, rfl, hk, hn1, HN1, HNK, HNS, HO, hb⟩ := hrel
    by_cases hlt : k < 1
    · have g1 : ((k + 2 : Nat) : Int) < 3 := by omega
      obtain ⟨t, ht⟩ : ∃ t, ds.getD k tNil = t := ⟨_, rfl⟩
      have hkd : k < ds.length := by rw [HDL.out]; exact hlt
      have hls : ds = ds.take k ++ t :: ds.drop (k + 1) := by
        have h1 := (List.take_append_drop k ds).symm
        rw [drop_cons ds tNil k hkd, ht] at h1
        exact h1
      have ct : wr.cell? ⟨b0, off + (k + 2), none⟩ = some (.string t) := by
        have h1 := HC1.out (2 + k) (by rw [HL.out]; omega)
        rw [← HDS.out, ht, Nat.add_comm 2 k] at h1
        exact (hb.cell (p := ⟨b0, off + (k + 2), none⟩) lb0).trans h1
      have lbr := Nat.lt_of_lt_of_le lb0 hb.size
      have htz : t.size ≤ 3000 := by rw [← ht, HDS.out]; exact HWZ.out _ (by omega)
      have HNT := Lib.hid (HNUM.out t wr htz)
      have HTK : Hid (ds.take (k + 1) = ds.take k ++ [t]) := Lib.hid (by
        rw [List.take_succ_eq_append_getElem hkd, ← ht, List.getD_eq_getElem?_getD, List.getElem?_eq_getElem hkd]; rfl)
      have HLS := Lib.hid hls
      clear ht hls hkd htz
      cases hok : (numK 7 t).2
      · rw [hok] at HNT
        have HBAD : Hid (lineR d ws = (tBad, d)) := Lib.hid (by
          rw [HLR.out, show numsOf ds = none from by rw [HLS.out]; exact numsOf_bad hok])
        clear hok
        go_wp2_with fail
        refine HNT.out.mono ?_
        rintro e w2 ⟨rfl, q⟩
        obtain rfl : wr = w2 := q
        have hWr := grow_step HW1.out hb
        go_wp2_with fail
        go_ret
        exact lq_same HBAD.out HD.out hWr
      · rw [hok] at HNT
        have HOK := Lib.hid hok
        obtain ⟨v, hv⟩ : ∃ v, (numK 7 t).1 = v := ⟨_, rfl⟩
        rw [hv] at HNT
        have HV := Lib.hid hv
        obtain rfl : n1 = ns.length := HN1.out
        clear hok hv
        go_wp2_with fail
        refine HNT.out.mono ?_
        rintro e w2 ⟨rfl, q⟩
        obtain rfl : wr = w2 := q
        go_wp2_with (at_builtin; refine app_ints rfl _ _ rfl w1.heap.size A1 cc ns rfl (HO.out.below ((Below.refl _ _).alloc (Nat.le_refl _) _)) _ 1 [v] rfl (IntsAt.new_ _ _ [v] _) (by simp; omega) (grow_alloc hb _).size ?_; intro A2 c2 zs2 w3 hz2 ho2 hb2)
        have hw3 : Below w1.heap.size w1 w3 := grow_base (grow_alloc hb _) hb2
        go_roundw
        case rel =>
          refine ⟨k + 1, zs2.length, A2, c2, zs2, rfl, by go_num, by omega, by rw [hz2.out]; simp; have := HNK.out; omega, Lib.hid rfl, Lib.hid (by rw [hz2.out]; simp; exact HNK.out), Lib.hid ?_, Lib.hid ho2, hw3⟩
          rw [HTK.out, numsOf_app, HNS.out, numsOf_one HOK.out HV.out.symm, hz2.out]; rfl
        case measure => simp only [intOf]; omega
    · have hkk : k = 1 := by omega
      subst hkk
      have hall : numsOf ds = some ns := by
        have h1 := HNS.out
        rw [List.take_of_length_le (by rw [HDL.out]; omega)] at h1
        exact h1
      have hnl : ns.length = 1 := HNK.out
      obtain rfl : n1 = ns.length := HN1.out
      have hnb := numsOf_at hall
      obtain ⟨x, rfl⟩ : ∃ x, ns = [x] := by
        match ns, hnl with
        | [x], _ => exact ⟨x, rfl⟩
      have HOUT : Hid (lineR d ws = namedR d wRaise nm [x]) := Lib.hid (by rw [HLR.out, hall]; exact if_neg HZ.out)
      have bx : 0 ≤ x ∧ x ≤ 9999999 := hnb 0
      obtain ⟨b1, o1, rfl, lb1, hcn⟩ : ∃ b1 o1, A1 = some ⟨b1, o1, none⟩ ∧ b1 < wr.heap.size ∧ ∀ j, j < 1 → wr.cell? ⟨b1, o1 + j, none⟩ = some (.int .i64 (([x] : List Int).getD j 0)) := by
        obtain ⟨b1, o1, e1, l1, h1⟩ := HO.out.ints 0 (by simp)
        subst e1
        exact ⟨b1, o1, rfl, l1, fun j hj => ints_cell HO.out.ints j hj⟩
      have HB1 : Hid (w1.heap.size ≤ b1) := Lib.hid (by
        rcases HO.out.2 with ⟨h2, _⟩ | ⟨g1, cap, cur, hv, hg, _⟩
        · cases h2
        · injection hv with hv
          injection hv with hv
          injection hv with hv
          omega)
      have n0 : wr.cell? ⟨b1, o1, none⟩ = some (.int .i64 x) := hcn 0 (by omega)
      have c0r := (hb.cell (p := ⟨b0, off, none⟩) lb0).trans c0
      have c1r := (hb.cell (p := ⟨b0, off + 1, none⟩) lb0).trans c1
      have lbr := Nat.lt_of_lt_of_le lb0 hb.size
      have HWr := Lib.hid (grow_step HW1.out hb)
      have HDR := Lib.hid (HD.out.below HWr.out)
      clear hlt hall hnl hnb hk hn1 HN1 HNK HNS HO c0 hb c1 hcn
      obtain ⟨⟨y0, y1, y2, y3, y4, y5, y6, y7, hbk, hrd⟩, hok⟩ := HDR.out
      have HRS := Lib.hid (qRaise_any g lb d.cnt nm x wr.drew hrd (by have := HNZ.out; omega) hok.cnt)
      have eb : 0 ≤ raiseE d.cnt nm x ∧ raiseE d.cnt nm x ≤ 9 := by unfold raiseE; (repeat' split) <;> omega
      have HYS := Lib.hid (fun w => yesR_any (raiseB d.cnt nm x) (raiseE d.cnt nm x) eb.1 eb.2 w)
      have hlr : lineR d ws = (sayB (raiseB d.cnt nm x) (raiseE d.cnt nm x), { d with cnt := raiseL d.cnt nm x }) := by
        rw [HOUT.out]
        unfold namedR
        rw [if_pos rfl]; rfl
      have hok2 : DskOK { d with cnt := raiseL d.cnt nm x } := by
        have h1 := lineR_ok hok ws
        rw [hlr] at h1
        exact h1
      have HLR2 := Lib.hid hlr
      have HOK2 := Lib.hid hok2
      have HBK := Lib.hid hbk
      unfold RaisePostD at HRS
      obtain ⟨B, hB⟩ : ∃ B, raiseB d.cnt nm x = B := ⟨_, rfl⟩
      obtain ⟨E, hE⟩ : ∃ E, raiseE d.cnt nm x = E := ⟨_, rfl⟩
      obtain ⟨ls, hls⟩ : ∃ ls, raiseL d.cnt nm x = ls := ⟨_, rfl⟩
      rw [hB, hE, hls] at HRS HLR2
      rw [hls] at HOK2
      rw [hB, hE] at HYS
      have HCC := Lib.hid (And.intro c1r n0)
      have hbb : ¬ (b0 = g ∨ b0 = lb) := by have h1 := HBS.out; have h2 := HLB.out; omega
      have hbb1 : ¬ (b1 = g ∨ b1 = lb) := by have h1 := HB1.out; have h2 := HLB.out; have h3 := HW1.out.size; omega
      clear hbk hrd hok eb hlr hok2 hB hE hls bx
      go_upto_region 57 with fail
      go_region_held3 (fun w' => w'.cell? ⟨b0, off + 1, none⟩ = some (.string nm) ∧ w'.cell? ⟨b1, o1, none⟩ = some (.int .i64 x))
        (first
          | exact ⟨c1r, n0⟩
          | exact ⟨d0, d1⟩
          | exact ⟨(hb6.cell (p := ⟨b0, off + 1, none⟩) ld0).trans d0, (hb6.cell (p := ⟨b1, o1, none⟩) ld1).trans d1⟩
          | (go_keep; done))
        (first
          | (go_at_call 25; refine HRS.out.mono ?_; rintro e w5 ⟨rfl, hrd5, hk5⟩; have d0 : w5.cell? ⟨b0, off + 1, none⟩ = some (.string nm) := (World.cell?_of_block (hk5.block b0 lbr hbb)).trans c1r; have d1 : w5.cell? ⟨b1, o1, none⟩ = some (.int .i64 x) := (World.cell?_of_block (hk5.block b1 lb1 hbb1)).trans n0; have ld0 := Nat.lt_of_lt_of_le lbr hk5.size; have ld1 := Nat.lt_of_lt_of_le lb1 hk5.size; have HRD5 := Lib.hid hrd5; have HK5 := Lib.hid hk5; clear hrd5 hk5)
          | (go_at_call 24; refine (HYS.out _).mono ?_; rintro e w6 ⟨rfl, hb6⟩))
      have HB6 := Lib.hid hb6
      clear hb6
      go_wp2_with fail
      go_ret
      rw [HLR2.out]
      have hk : But (fun k => k = g ∨ k = lb) w w6 := ((below_but (grow_drew HWr.out) (fun k => k = g ∨ k = lb)).trans HK5.out (fun _ _ h => h)).trans (below_but HB6.out _) (fun _ _ h => h)
      refine ⟨rfl, ?_, hk⟩
      obtain ⟨lb', hr5, hl5⟩ := HRD5.out
      refine ⟨lb', ⟨⟨y0, y1, y2, y3, y4, y5, y6, y7, HBK.out, hr5.below HB6.out⟩, HOK2.out⟩, ?_⟩
      rcases hl5 with h1 | ⟨h1, h2⟩
      · exact Or.inl h1
      · have h3 := HWr.out.size
        have h4 := HB6.out.size
        have h5 : wr.heap.size ≤ lb' := h1
        exact Or.inr ⟨by omega, by omega⟩

set_option maxHeartbeats 4000000 in
theorem line_may (w : World) (g lb : Nat) (d : Dsk) (s : ByteArray) (h : RDA w g lb d) (hlb : lb < w.heap.size) (hs : s.size ≤ 3000) (hw0 : (wordsB s).getD 0 tNil = wMay) (hL : (wordsB s).length = 3) :
    Calls Tryz.prog 8 #[.pointer (some ⟨g, 0, none⟩), .string s] w (LQ w g lb (lineR d (wordsB s))) := by
  have HCU := Lib.hid (fun w => rCutW s w (by omega))
  rw [hL] at HCU
  have hwz : ∀ i, i < 3 → ((wordsB s).getD i tNil).size ≤ 3000 := fun i hi => Nat.le_trans (word_at s i (by omega)) hs
  have HNUM := Lib.hid (fun (s : ByteArray) (w : World) (h : s.size ≤ 3000) => rNumber_k 7 (Nat.le_refl 7) s w (by omega))
  have HD := Lib.hid h
  have HLB := Lib.hid (And.intro h.lt hlb)
  obtain ⟨ws, hws⟩ : ∃ ws, wordsB s = ws := ⟨_, rfl⟩
  rw [hws] at HCU hwz hw0 hL ⊢
  have HLR : Hid (lineR d ws = (match numsOf (ws.drop 2) with | some ns => (if (ws.getD 1 tNil).size = 0 then (tBad, d) else namedR d wMay (ws.getD 1 tNil) ns) | none => (tBad, d))) := Lib.hid (by
    unfold lineR
    rw [hw0, hL, if_pos (by decide), if_pos (by decide)]
    cases numsOf (ws.drop 2) <;> rfl)
  have HDL : Hid ((ws.drop 2).length = 1) := Lib.hid (by rw [List.length_drop, hL])
  obtain ⟨ds, hds⟩ : ∃ ds, ws.drop 2 = ds := ⟨_, rfl⟩
  have HDS : Hid (∀ i, ds.getD i tNil = ws.getD (2 + i) tNil) := Lib.hid (fun i => by rw [← hds, List.getD_eq_getElem?_getD, List.getElem?_drop, ← List.getD_eq_getElem?_getD])
  rw [hds] at HLR HDL
  have HW0 := Lib.hid hw0
  have HL := Lib.hid hL
  have HWZ := Lib.hid hwz
  clear h hlb hs hw0 hL hwz hws hds
  go_enter Tryz.func8, Tryz.ntmps8
  go_wp2_with fail
  refine (HCU.out _).mono ?_
  rintro e w1 ⟨A, cp, rfl, hC, hbase, hb1⟩
  obtain ⟨b0, off, rfl, lb0, hc⟩ := cells_words hC (by rw [HL.out]; omega)
  have HBS : Hid (w.heap.size ≤ b0) := Lib.hid (hbase _ rfl)
  clear hbase
  have HC1 := Lib.hid hc
  have c0 : w1.cell? ⟨b0, off, none⟩ = some (.string wMay) := by
    have h1 := hc 0 (by rw [HL.out]; omega)
    rw [HW0.out] at h1
    exact h1
  obtain ⟨nm, hnm⟩ : ∃ nm, ws.getD 1 tNil = nm := ⟨_, rfl⟩
  have c1 : w1.cell? ⟨b0, off + 1, none⟩ = some (.string nm) := by
    have h1 := hc 1 (by rw [HL.out]; omega)
    rw [hnm] at h1
    exact h1
  have HNZ : Hid (nm.size ≤ 3000) := Lib.hid (by rw [← hnm]; exact HWZ.out 1 (by omega))
  rw [hnm] at HLR
  have HW1 := Lib.hid hb1
  clear hc hC hb1 hnm
  by_cases hz : nm.size = 0
  · have t2 : (nm.toList == []) = true := by
      have h1 := str_beq nm tNil
      rw [decide_eq_true (show nm = tNil from bytes_ext (by rw [List.eq_nil_of_length_eq_zero (show nm.data.toList.length = 0 by simpa using hz)])), list_bytes tNil] at h1
      exact h1
    have HBAD : Hid (lineR d ws = (tBad, d)) := Lib.hid (by
      rw [HLR.out]
      cases numsOf ds with
      | none => rfl
      | some ns => exact if_pos hz)
    clear hz
    go_wp2_with fail
    go_ret
    exact lq_same HBAD.out HD.out HW1.out
  have t2 : (nm.toList == []) = false := by
    have h1 := str_beq nm tNil
    rw [decide_eq_false (show ¬ nm = tNil from fun e => hz (by rw [e]; rfl)), list_bytes tNil] at h1
    exact h1
  have HZ := Lib.hid hz
  clear hz
  go_wp2_with fail
  go_loopw [9, 10, 11, 12] (fun n i _ _ wr => ∃ (k n1 : Nat) (A1 : Option Addr) (cc : Nat) (ns : List Int), n = .slice A1 n1 cc ∧ i = .int .i64 ((k + 2 : Nat) : Int) ∧ k ≤ 1 ∧ n1 ≤ 4 ∧ Hid (n1 = ns.length) ∧ Hid (ns.length = k) ∧ Hid (numsOf (ds.take k) = some ns) ∧ Hid (OwnI wr w1.heap.size A1 cc ns) ∧ Below w1.heap.size w1 wr) (fun _ i _ _ _ => 3 - (intOf i).toNat)
  case atStart => exact ⟨0, 0, none, 0, [], rfl, rfl, by omega, by omega, Lib.hid rfl, Lib.hid rfl, Lib.hid rfl, Lib.hid (OwnI.start _ _), grow_refl _⟩
  case round =>
    obtain ⟨k, n1, A1, cc, ns, rfl, rfl, hk, hn1, HN1, HNK, HNS, HO, hb⟩ := hrel
    by_cases hlt : k < 1
    · have g1 : ((k + 2 : Nat) : Int) < 3 := by omega
      obtain ⟨t, ht⟩ : ∃ t, ds.getD k tNil = t := ⟨_, rfl⟩
      have hkd : k < ds.length := by rw [HDL.out]; exact hlt
      have hls : ds = ds.take k ++ t :: ds.drop (k + 1) := by
        have h1 := (List.take_append_drop k ds).symm
        rw [drop_cons ds tNil k hkd, ht] at h1
        exact h1
      have ct : wr.cell? ⟨b0, off + (k + 2), none⟩ = some (.string t) := by
        have h1 := HC1.out (2 + k) (by rw [HL.out]; omega)
        rw [← HDS.out, ht, Nat.add_comm 2 k] at h1
        exact (hb.cell (p := ⟨b0, off + (k + 2), none⟩) lb0).trans h1
      have lbr := Nat.lt_of_lt_of_le lb0 hb.size
      have htz : t.size ≤ 3000 := by rw [← ht, HDS.out]; exact HWZ.out _ (by omega)
      have HNT := Lib.hid (HNUM.out t wr htz)
      have HTK : Hid (ds.take (k + 1) = ds.take k ++ [t]) := Lib.hid (by
        rw [List.take_succ_eq_append_getElem hkd, ← ht, List.getD_eq_getElem?_getD, List.getElem?_eq_getElem hkd]; rfl)
      have HLS := Lib.hid hls
      clear ht hls hkd htz
      cases hok : (numK 7 t).2
      · rw [hok] at HNT
        have HBAD : Hid (lineR d ws = (tBad, d)) := Lib.hid (by
          rw [HLR.out, show numsOf ds = none from by rw [HLS.out]; exact numsOf_bad hok])
        clear hok
        go_wp2_with fail
        refine HNT.out.mono ?_
        rintro e w2 ⟨rfl, q⟩
        obtain rfl : wr = w2 := q
        have hWr := grow_step HW1.out hb
        go_wp2_with fail
        go_ret
        exact lq_same HBAD.out HD.out hWr
      · rw [hok] at HNT
        have HOK := Lib.hid hok
        obtain ⟨v, hv⟩ : ∃ v, (numK 7 t).1 = v := ⟨_, rfl⟩
        rw [hv] at HNT
        have HV := Lib.hid hv
        obtain rfl : n1 = ns.length := HN1.out
        clear hok hv
        go_wp2_with fail
        refine HNT.out.mono ?_
        rintro e w2 ⟨rfl, q⟩
        obtain rfl : wr = w2 := q
        go_wp2_with (at_builtin; refine app_ints rfl _ _ rfl w1.heap.size A1 cc ns rfl (HO.out.below ((Below.refl _ _).alloc (Nat.le_refl _) _)) _ 1 [v] rfl (IntsAt.new_ _ _ [v] _) (by simp; omega) (grow_alloc hb _).size ?_; intro A2 c2 zs2 w3 hz2 ho2 hb2)
        have hw3 : Below w1.heap.size w1 w3 := grow_base (grow_alloc hb _) hb2
        go_roundw
        case rel =>
          refine ⟨k + 1, zs2.length, A2, c2, zs2, rfl, by go_num, by omega, by rw [hz2.out]; simp; have := HNK.out; omega, Lib.hid rfl, Lib.hid (by rw [hz2.out]; simp; exact HNK.out), Lib.hid ?_, Lib.hid ho2, hw3⟩
          rw [HTK.out, numsOf_app, HNS.out, numsOf_one HOK.out HV.out.symm, hz2.out]; rfl
        case measure => simp only [intOf]; omega
    · have hkk : k = 1 := by omega
      subst hkk
      have hall : numsOf ds = some ns := by
        have h1 := HNS.out
        rw [List.take_of_length_le (by rw [HDL.out]; omega)] at h1
        exact h1
      have hnl : ns.length = 1 := HNK.out
      obtain rfl : n1 = ns.length := HN1.out
      have hnb := numsOf_at hall
      obtain ⟨x, rfl⟩ : ∃ x, ns = [x] := by
        match ns, hnl with
        | [x], _ => exact ⟨x, rfl⟩
      have HOUT : Hid (lineR d ws = namedR d wMay nm [x]) := Lib.hid (by rw [HLR.out, hall]; exact if_neg HZ.out)
      have bx : 0 ≤ x ∧ x ≤ 9999999 := hnb 0
      obtain ⟨b1, o1, rfl, lb1, hcn⟩ : ∃ b1 o1, A1 = some ⟨b1, o1, none⟩ ∧ b1 < wr.heap.size ∧ ∀ j, j < 1 → wr.cell? ⟨b1, o1 + j, none⟩ = some (.int .i64 (([x] : List Int).getD j 0)) := by
        obtain ⟨b1, o1, e1, l1, h1⟩ := HO.out.ints 0 (by simp)
        subst e1
        exact ⟨b1, o1, rfl, l1, fun j hj => ints_cell HO.out.ints j hj⟩
      have HB1 : Hid (w1.heap.size ≤ b1) := Lib.hid (by
        rcases HO.out.2 with ⟨h2, _⟩ | ⟨g1, cap, cur, hv, hg, _⟩
        · cases h2
        · injection hv with hv
          injection hv with hv
          injection hv with hv
          omega)
      have n0 : wr.cell? ⟨b1, o1, none⟩ = some (.int .i64 x) := hcn 0 (by omega)
      have c0r := (hb.cell (p := ⟨b0, off, none⟩) lb0).trans c0
      have c1r := (hb.cell (p := ⟨b0, off + 1, none⟩) lb0).trans c1
      have lbr := Nat.lt_of_lt_of_le lb0 hb.size
      have HWr := Lib.hid (grow_step HW1.out hb)
      have HDR := Lib.hid (HD.out.below HWr.out)
      clear hlt hall hnl hnb hk hn1 HN1 HNK HNS HO c0 hb c1 hcn
      obtain ⟨⟨y0, y1, y2, y3, y4, y5, y6, y7, hbk, hrd⟩, hok⟩ := HDR.out
      have HMY := Lib.hid (qMay_any g d.cnt nm x wr.drew hrd.cnt (by have := HNZ.out; omega) hok.cnt)
      have mb : 0 ≤ mayL d.cnt nm x ∧ mayL d.cnt nm x ≤ 9 := by unfold mayL; (repeat' split) <;> omega
      have HR : Hid (lineR d ws = (if mayL d.cnt nm x = 0 then tOk else errN (mayL d.cnt nm x), d)) := Lib.hid (by
        rw [HOUT.out]
        unfold namedR
        rw [if_neg (by decide), if_pos rfl]; rfl)
      obtain ⟨E, hE⟩ : ∃ E, mayL d.cnt nm x = E := ⟨_, rfl⟩
      rw [hE] at HMY HR mb
      have HNA := Lib.hid (fun w => name_any E mb.1 mb.2 w)
      have HCC := Lib.hid (And.intro c1r n0)
      have GW := grow_drew (grow_refl wr)
      clear hbk hrd hok mb hE bx
      go_upto_region 59 with fail
      go_region_held3 (fun w' => w'.cell? ⟨b0, off + 1, none⟩ = some (.string nm) ∧ w'.cell? ⟨b1, o1, none⟩ = some (.int .i64 x))
        (first
          | exact ⟨(GW.cell (p := ⟨b0, off + 1, none⟩) lbr).trans HCC.out.1, (GW.cell (p := ⟨b1, o1, none⟩) lb1).trans HCC.out.2⟩
          | (go_keep; done))
        (first
          | (go_at_call 26; refine HMY.out.mono ?_; rintro e w5 ⟨rfl, rfl⟩))
      by_cases h0 : E = 0
      · have HR2 : Hid (lineR d ws = (tOk, d)) := Lib.hid (by rw [HR.out, if_pos h0])
        have hWe := grow_step HWr.out GW
        go_wp2_with fail
        go_ret
        exact lq_same HR2.out HD.out hWe
      · have HR2 : Hid (lineR d ws = (errN E, d)) := Lib.hid (by rw [HR.out, if_neg h0])
        have hWe := grow_step HWr.out GW
        go_wp2_with fail
        refine (HNA.out _).mono ?_
        rintro e w6 ⟨rfl, hb6⟩
        have hWf := grow_step hWe hb6
        go_wp2_with fail
        go_ret
        exact lq_same HR2.out HD.out hWf

set_option maxHeartbeats 4000000 in
theorem line_check (w : World) (g lb : Nat) (d : Dsk) (s : ByteArray) (h : RDA w g lb d) (hlb : lb < w.heap.size) (hs : s.size ≤ 3000) (hw0 : (wordsB s).getD 0 tNil = wCheck) (hL : (wordsB s).length = 5) :
    Calls Tryz.prog 8 #[.pointer (some ⟨g, 0, none⟩), .string s] w (LQ w g lb (lineR d (wordsB s))) := by
  have HCU := Lib.hid (fun w => rCutW s w (by omega))
  rw [hL] at HCU
  have hwz : ∀ i, i < 5 → ((wordsB s).getD i tNil).size ≤ 3000 := fun i hi => Nat.le_trans (word_at s i (by omega)) hs
  have HNUM := Lib.hid (fun (s : ByteArray) (w : World) (h : s.size ≤ 3000) => rNumber_k 7 (Nat.le_refl 7) s w (by omega))
  have HD := Lib.hid h
  have HLB := Lib.hid (And.intro h.lt hlb)
  obtain ⟨ws, hws⟩ : ∃ ws, wordsB s = ws := ⟨_, rfl⟩
  rw [hws] at HCU hwz hw0 hL ⊢
  have HLR : Hid (lineR d ws = (match numsOf (ws.drop 1) with | some ns => plainR d wCheck ns | none => (tBad, d))) := Lib.hid (by
    unfold lineR
    rw [hw0, hL, if_pos (by decide), if_neg (by decide)]
    cases numsOf (ws.drop 1) <;> rfl)
  have HDL : Hid ((ws.drop 1).length = 4) := Lib.hid (by rw [List.length_drop, hL])
  obtain ⟨ds, hds⟩ : ∃ ds, ws.drop 1 = ds := ⟨_, rfl⟩
  have HDS : Hid (∀ i, ds.getD i tNil = ws.getD (1 + i) tNil) := Lib.hid (fun i => by rw [← hds, List.getD_eq_getElem?_getD, List.getElem?_drop, ← List.getD_eq_getElem?_getD])
  rw [hds] at HLR HDL
  have HW0 := Lib.hid hw0
  have HL := Lib.hid hL
  have HWZ := Lib.hid hwz
  clear h hlb hs hw0 hL hwz hws hds
  go_enter Tryz.func8, Tryz.ntmps8
  go_wp2_with fail
  refine (HCU.out _).mono ?_
  rintro e w1 ⟨A, cp, rfl, hC, hbase, hb1⟩
  obtain ⟨b0, off, rfl, lb0, hc⟩ := cells_words hC (by rw [HL.out]; omega)
  have HBS : Hid (w.heap.size ≤ b0) := Lib.hid (hbase _ rfl)
  clear hbase
  have HC1 := Lib.hid hc
  have c0 : w1.cell? ⟨b0, off, none⟩ = some (.string wCheck) := by
    have h1 := hc 0 (by rw [HL.out]; omega)
    rw [HW0.out] at h1
    exact h1
  have HW1 := Lib.hid hb1
  clear hc hC hb1
  go_wp2_with fail
  go_loopw [9, 10, 11, 12] (fun n i _ _ wr => ∃ (k n1 : Nat) (A1 : Option Addr) (cc : Nat) (ns : List Int), n = .slice A1 n1 cc ∧ i = .int .i64 ((k + 1 : Nat) : Int) ∧ k ≤ 4 ∧ n1 ≤ 4 ∧ Hid (n1 = ns.length) ∧ Hid (ns.length = k) ∧ Hid (numsOf (ds.take k) = some ns) ∧ Hid (OwnI wr w1.heap.size A1 cc ns) ∧ Below w1.heap.size w1 wr) (fun _ i _ _ _ => 5 - (intOf i).toNat)
  case atStart => exact ⟨0, 0, none, 0, [], rfl, rfl, by omega, by omega, Lib.hid rfl, Lib.hid rfl, Lib.hid rfl, Lib.hid (OwnI.start _ _), grow_refl _⟩
  case round =>
    obtain ⟨k, n1, A1, cc, ns, rfl, rfl, hk, hn1, HN1, HNK, HNS, HO, hb⟩ := hrel
    by_cases hlt : k < 4
    · have g1 : ((k + 1 : Nat) : Int) < 5 := by omega
      obtain ⟨t, ht⟩ : ∃ t, ds.getD k tNil = t := ⟨_, rfl⟩
      have hkd : k < ds.length := by rw [HDL.out]; exact hlt
      have hls : ds = ds.take k ++ t :: ds.drop (k + 1) := by
        have h1 := (List.take_append_drop k ds).symm
        rw [drop_cons ds tNil k hkd, ht] at h1
        exact h1
      have ct : wr.cell? ⟨b0, off + (k + 1), none⟩ = some (.string t) := by
        have h1 := HC1.out (1 + k) (by rw [HL.out]; omega)
        rw [← HDS.out, ht, Nat.add_comm 1 k] at h1
        exact (hb.cell (p := ⟨b0, off + (k + 1), none⟩) lb0).trans h1
      have lbr := Nat.lt_of_lt_of_le lb0 hb.size
      have htz : t.size ≤ 3000 := by rw [← ht, HDS.out]; exact HWZ.out _ (by omega)
      have HNT := Lib.hid (HNUM.out t wr htz)
      have HTK : Hid (ds.take (k + 1) = ds.take k ++ [t]) := Lib.hid (by
        rw [List.take_succ_eq_append_getElem hkd, ← ht, List.getD_eq_getElem?_getD, List.getElem?_eq_getElem hkd]; rfl)
      have HLS := Lib.hid hls
      clear ht hls hkd htz
      cases hok : (numK 7 t).2
      · rw [hok] at HNT
        have HBAD : Hid (lineR d ws = (tBad, d)) := Lib.hid (by
          rw [HLR.out, show numsOf ds = none from by rw [HLS.out]; exact numsOf_bad hok])
        clear hok
        go_wp2_with fail
        refine HNT.out.mono ?_
        rintro e w2 ⟨rfl, q⟩
        obtain rfl : wr = w2 := q
        have hWr := grow_step HW1.out hb
        go_wp2_with fail
        go_ret
        exact lq_same HBAD.out HD.out hWr
      · rw [hok] at HNT
        have HOK := Lib.hid hok
        obtain ⟨v, hv⟩ : ∃ v, (numK 7 t).1 = v := ⟨_, rfl⟩
        rw [hv] at HNT
        have HV := Lib.hid hv
        obtain rfl : n1 = ns.length := HN1.out
        clear hok hv
        go_wp2_with fail
        refine HNT.out.mono ?_
        rintro e w2 ⟨rfl, q⟩
        obtain rfl : wr = w2 := q
        go_wp2_with (at_builtin; refine app_ints rfl _ _ rfl w1.heap.size A1 cc ns rfl (HO.out.below ((Below.refl _ _).alloc (Nat.le_refl _) _)) _ 1 [v] rfl (IntsAt.new_ _ _ [v] _) (by simp; omega) (grow_alloc hb _).size ?_; intro A2 c2 zs2 w3 hz2 ho2 hb2)
        have hw3 : Below w1.heap.size w1 w3 := grow_base (grow_alloc hb _) hb2
        go_roundw
        case rel =>
          refine ⟨k + 1, zs2.length, A2, c2, zs2, rfl, by go_num, by omega, by rw [hz2.out]; simp; have := HNK.out; omega, Lib.hid rfl, Lib.hid (by rw [hz2.out]; simp; exact HNK.out), Lib.hid ?_, Lib.hid ho2, hw3⟩
          rw [HTK.out, numsOf_app, HNS.out, numsOf_one HOK.out HV.out.symm, hz2.out]; rfl
        case measure => simp only [intOf]; omega
    · have hkk : k = 4 := by omega
      subst hkk
      have hall : numsOf ds = some ns := by
        have h1 := HNS.out
        rw [List.take_of_length_le (by rw [HDL.out]; omega)] at h1
        exact h1
      have hnl : ns.length = 4 := HNK.out
      obtain rfl : n1 = ns.length := HN1.out
      have hnb := numsOf_at hall
      obtain ⟨x, y, z, u, rfl⟩ : ∃ x y z u, ns = [x, y, z, u] := by
        match ns, hnl with
        | [x, y, z, u], _ => exact ⟨x, y, z, u, rfl⟩
      have HOUT : Hid (lineR d ws = plainR d wCheck [x, y, z, u]) := Lib.hid (by rw [HLR.out, hall])
      have bx : 0 ≤ x ∧ x ≤ 9999999 := hnb 0
      have by_ : 0 ≤ y ∧ y ≤ 9999999 := hnb 1
      have bz : 0 ≤ z ∧ z ≤ 9999999 := hnb 2
      have bu : 0 ≤ u ∧ u ≤ 9999999 := hnb 3
      obtain ⟨b1, o1, rfl, lb1, hcn⟩ : ∃ b1 o1, A1 = some ⟨b1, o1, none⟩ ∧ b1 < wr.heap.size ∧ ∀ j, j < 4 → wr.cell? ⟨b1, o1 + j, none⟩ = some (.int .i64 (([x, y, z, u] : List Int).getD j 0)) := by
        obtain ⟨b1, o1, e1, l1, h1⟩ := HO.out.ints 0 (by simp)
        subst e1
        exact ⟨b1, o1, rfl, l1, fun j hj => ints_cell HO.out.ints j hj⟩
      have HB1 : Hid (w1.heap.size ≤ b1) := Lib.hid (by
        rcases HO.out.2 with ⟨h2, _⟩ | ⟨g1, cap, cur, hv, hg, _⟩
        · cases h2
        · injection hv with hv
          injection hv with hv
          injection hv with hv
          omega)
      have n0 : wr.cell? ⟨b1, o1, none⟩ = some (.int .i64 x) := hcn 0 (by omega)
      have n1 : wr.cell? ⟨b1, o1 + 1, none⟩ = some (.int .i64 y) := hcn 1 (by omega)
      have n2 : wr.cell? ⟨b1, o1 + 2, none⟩ = some (.int .i64 z) := hcn 2 (by omega)
      have n3 : wr.cell? ⟨b1, o1 + 3, none⟩ = some (.int .i64 u) := hcn 3 (by omega)
      have c0r := (hb.cell (p := ⟨b0, off, none⟩) lb0).trans c0
      have lbr := Nat.lt_of_lt_of_le lb0 hb.size
      have HWr := Lib.hid (grow_step HW1.out hb)
      have HDR := Lib.hid (HD.out.below HWr.out)
      clear hlt hall hnl hnb hk hn1 HN1 HNK HNS HO c0 hb hcn
      have HRI := Lib.hid (fun w => rRight_any x y z u w)
      have HCC := Lib.hid (And.intro n0 (And.intro n1 (And.intro n2 n3)))
      have hlr : lineR d ws = (sayB (chkB x y z u) (chkE x y z u), d) := by
        rw [HOUT.out]
        unfold plainR
        rw [if_neg (by decide), if_neg (by decide), if_neg (by decide), if_neg (by decide)]; rfl
      have hcs : (rightE x y z u = 1 ∧ lineR d ws = (errN 1, d)) ∨ (rightE x y z u ≠ 1 ∧ lineR d ws = (sayB (rightE x y z u == 0) 0, d)) := by
        rw [hlr]
        unfold rightE chkB chkE
        cases okSeal x y z u
        · exact Or.inl ⟨rfl, rfl⟩
        · cases eqSeal x y z u
          · exact Or.inr ⟨by decide, rfl⟩
          · exact Or.inr ⟨by decide, rfl⟩
      have HNA := Lib.hid (fun w => name_any 1 (by decide) (by decide) w)
      have HYS := Lib.hid (fun b w => yesR_any b 0 (by decide) (by decide) w)
      obtain ⟨E, hE⟩ : ∃ E, rightE x y z u = E := ⟨_, rfl⟩
      rw [hE] at HRI hcs
      have HCS := Lib.hid hcs
      have GW := grow_drew (grow_refl wr)
      clear hlr hcs hE n0 n1 n2 n3 bx by_ bz bu
      go_upto_region 71 with fail
      go_region_held3 (fun w' => w'.cell? ⟨b1, o1, none⟩ = some (.int .i64 x) ∧ w'.cell? ⟨b1, o1 + 1, none⟩ = some (.int .i64 y) ∧ w'.cell? ⟨b1, o1 + 2, none⟩ = some (.int .i64 z) ∧ w'.cell? ⟨b1, o1 + 3, none⟩ = some (.int .i64 u))
        (first
          | exact ⟨(GW.cell (p := ⟨b1, o1, none⟩) lb1).trans HCC.out.1, (GW.cell (p := ⟨b1, o1 + 1, none⟩) lb1).trans HCC.out.2.1, (GW.cell (p := ⟨b1, o1 + 2, none⟩) lb1).trans HCC.out.2.2.1, (GW.cell (p := ⟨b1, o1 + 3, none⟩) lb1).trans HCC.out.2.2.2⟩
          | (go_keep; done))
        (first
          | (go_at_call 29; refine (HRI.out _).mono ?_; rintro e w5 ⟨rfl, hb5⟩; have GW := grow_step GW hb5))
      have hWe := grow_step HWr.out GW
      by_cases h1 : E = 1
      · have HR : Hid (lineR d ws = (errN 1, d)) := Lib.hid (by
          rcases HCS.out with h2 | h2
          · exact h2.2
          · exact absurd h1 h2.1)
        go_wp2_with fail
        refine (HNA.out _).mono ?_
        rintro e w6 ⟨rfl, hb6⟩
        have hWf := grow_step hWe hb6
        go_wp2_with fail
        go_ret
        exact lq_same HR.out HD.out hWf
      · have HR : Hid (lineR d ws = (sayB (E == 0) 0, d)) := Lib.hid (by
          rcases HCS.out with h2 | h2
          · exact absurd h2.1 h1
          · exact h2.2)
        obtain ⟨b, hb0⟩ : ∃ b, (E == 0) = b := ⟨_, rfl⟩
        rw [hb0] at HR
        go_wp2_with fail
        refine (HYS.out _ _).mono ?_
        rintro e w6 ⟨rfl, hb6⟩
        have hWf := grow_step hWe hb6
        go_wp2_with fail
        go_ret
        exact lq_same HR.out HD.out hWf

theorem str_beqD (a b : ByteArray) : (a.toList == b.data.toList) = decide (a = b) := by
  have h := str_beq a b
  rw [list_bytes b] at h
  exact h

set_option maxHeartbeats 4000000 in
theorem line_none (w : World) (g lb : Nat) (d : Dsk) (s : ByteArray) (h : RDA w g lb d) (hs : s.size ≤ 3000) (hne : ((wordsB s).length : Int) - 1 ≠ wantN ((wordsB s).getD 0 tNil)) :
    Calls Tryz.prog 8 #[.pointer (some ⟨g, 0, none⟩), .string s] w (LQ w g lb (lineR d (wordsB s))) := by
  have HCU := Lib.hid (fun w => rCutW s w (by omega))
  obtain ⟨hl1, hl2⟩ := words_le s
  have HD := Lib.hid h
  obtain ⟨ws, hws⟩ : ∃ ws, wordsB s = ws := ⟨_, rfl⟩
  rw [hws] at HCU hne hl1 hl2 ⊢
  have HR : Hid (lineR d ws = (tBad, d)) := Lib.hid (by unfold lineR; rw [if_neg hne])
  obtain ⟨w0, hw0⟩ : ∃ w0, ws.getD 0 tNil = w0 := ⟨_, rfl⟩
  rw [hw0] at hne
  obtain ⟨L, hL⟩ : ∃ L, ws.length = L := ⟨_, rfl⟩
  rw [hL] at HCU hne hl1 hl2
  have HL := Lib.hid hL
  have HW0 := Lib.hid hw0
  have g1 : (0 : Int) < (L : Int) := by omega
  have g2 : 0 < L := by omega
  have g3 : (L : Int) ≤ 3001 := by omega
  clear h hs hws hw0 hL hl1
  go_enter Tryz.func8, Tryz.ntmps8
  go_wp2_with fail
  refine (HCU.out _).mono ?_
  rintro e w1 ⟨A, cp, rfl, hC, hbase, hb1⟩
  obtain ⟨b0, off, rfl, lb0, hc⟩ := cells_words hC (by rw [HL.out]; exact g2)
  have c0 : w1.cell? ⟨b0, off, none⟩ = some (.string w0) := by
    have h1 := hc 0 (by rw [HL.out]; exact g2)
    rw [HW0.out] at h1
    exact h1
  have HW1 := Lib.hid hb1
  clear hc hC hb1 hbase
  have m0 : (w0.toList == [101, 120, 116, 101, 110, 100]) = decide (w0 = wExtend) := str_beqD w0 wExtend
  have m1 : (w0.toList == [100, 105, 103, 101, 115, 116]) = decide (w0 = wDigest) := str_beqD w0 wDigest
  have m2 : (w0.toList == [112, 117, 98, 108, 105, 99]) = decide (w0 = wPublic) := str_beqD w0 wPublic
  have m3 : (w0.toList == [109, 101, 97, 115, 117, 114, 101]) = decide (w0 = wMeasure) := str_beqD w0 wMeasure
  have m4 : (w0.toList == [114, 97, 105, 115, 101]) = decide (w0 = wRaise) := str_beqD w0 wRaise
  have m5 : (w0.toList == [109, 97, 121]) = decide (w0 = wMay) := str_beqD w0 wMay
  have m6 : (w0.toList == [115, 105, 103, 110]) = decide (w0 = wSign) := str_beqD w0 wSign
  have m7 : (w0.toList == [99, 104, 101, 99, 107]) = decide (w0 = wCheck) := str_beqD w0 wCheck
  by_cases e0 : w0 = wExtend
  · have hw : wantN w0 = 2 := by rw [e0]; decide
    rw [hw] at hne
    have t1 : ((L : Int) - 1 != 2) = true := by simpa using hne
    have t2 : ¬ (L : Int) - 1 = 2 := hne
    rw [decide_eq_true e0] at m0
    clear e0 hw hne m1 m2 m3 m4 m5 m6 m7
    go_wp2_with fail
    go_ret
    exact lq_same HR.out HD.out HW1.out
  rw [decide_eq_false e0] at m0
  by_cases e1 : w0 = wDigest
  · have hw : wantN w0 = 1 := by rw [e1]; decide
    rw [hw] at hne
    have t1 : ((L : Int) - 1 != 1) = true := by simpa using hne
    have t2 : ¬ (L : Int) - 1 = 1 := hne
    rw [decide_eq_true e1] at m1
    clear e1 hw hne m2 m3 m4 m5 m6 m7
    go_wp2_with fail
    go_ret
    exact lq_same HR.out HD.out HW1.out
  rw [decide_eq_false e1] at m1
  by_cases e2 : w0 = wPublic
  · have hw : wantN w0 = 1 := by rw [e2]; decide
    rw [hw] at hne
    have t1 : ((L : Int) - 1 != 1) = true := by simpa using hne
    have t2 : ¬ (L : Int) - 1 = 1 := hne
    rw [decide_eq_true e2] at m2
    clear e2 hw hne m3 m4 m5 m6 m7
    go_wp2_with fail
    go_ret
    exact lq_same HR.out HD.out HW1.out
  rw [decide_eq_false e2] at m2
  by_cases e3 : w0 = wMeasure
  · have hw : wantN w0 = 1 := by rw [e3]; decide
    rw [hw] at hne
    have t1 : ((L : Int) - 1 != 1) = true := by simpa using hne
    have t2 : ¬ (L : Int) - 1 = 1 := hne
    rw [decide_eq_true e3] at m3
    clear e3 hw hne m4 m5 m6 m7
    go_wp2_with fail
    go_ret
    exact lq_same HR.out HD.out HW1.out
  rw [decide_eq_false e3] at m3
  by_cases e4 : w0 = wRaise
  · have hw : wantN w0 = 2 := by rw [e4]; decide
    rw [hw] at hne
    have t1 : ((L : Int) - 1 != 2) = true := by simpa using hne
    have t2 : ¬ (L : Int) - 1 = 2 := hne
    rw [decide_eq_true e4] at m4
    clear e4 hw hne m5 m6 m7
    go_wp2_with fail
    go_ret
    exact lq_same HR.out HD.out HW1.out
  rw [decide_eq_false e4] at m4
  by_cases e5 : w0 = wMay
  · have hw : wantN w0 = 2 := by rw [e5]; decide
    rw [hw] at hne
    have t1 : ((L : Int) - 1 != 2) = true := by simpa using hne
    have t2 : ¬ (L : Int) - 1 = 2 := hne
    rw [decide_eq_true e5] at m5
    clear e5 hw hne m6 m7
    go_wp2_with fail
    go_ret
    exact lq_same HR.out HD.out HW1.out
  rw [decide_eq_false e5] at m5
  by_cases e6 : w0 = wSign
  · have hw : wantN w0 = 3 := by rw [e6]; decide
    rw [hw] at hne
    have t1 : ((L : Int) - 1 != 3) = true := by simpa using hne
    have t2 : ¬ (L : Int) - 1 = 3 := hne
    rw [decide_eq_true e6] at m6
    clear e6 hw hne m7
    go_wp2_with fail
    go_ret
    exact lq_same HR.out HD.out HW1.out
  rw [decide_eq_false e6] at m6
  by_cases e7 : w0 = wCheck
  · have hw : wantN w0 = 4 := by rw [e7]; decide
    rw [hw] at hne
    have t1 : ((L : Int) - 1 != 4) = true := by simpa using hne
    have t2 : ¬ (L : Int) - 1 = 4 := hne
    rw [decide_eq_true e7] at m7
    clear e7 hw hne
    go_wp2_with fail
    go_ret
    exact lq_same HR.out HD.out HW1.out
  rw [decide_eq_false e7] at m7
  have hw : wantN w0 = -1 := by unfold wantN; rw [if_neg e0, if_neg e1, if_neg e3, if_neg e4, if_neg e5, if_neg e2, if_neg e6, if_neg e7]
  rw [hw] at hne
  have t1 : ((L : Int) - 1 != -1) = true := by simpa using hne
  have t2 : ¬ (L : Int) - 1 = -1 := hne
  clear e0 e1 e2 e3 e4 e5 e6 e7 hw hne
  go_wp2_with fail
  go_ret
  exact lq_same HR.out HD.out HW1.out

theorem rLine_any (w : World) (g lb : Nat) (d : Dsk) (s : ByteArray) (h : RDA w g lb d) (hlb : lb < w.heap.size) (hs : s.size ≤ 3000) :
    Calls Tryz.prog 8 #[.pointer (some ⟨g, 0, none⟩), .string s] w (LQ w g lb (lineR d (wordsB s))) := by
  by_cases hne : ((wordsB s).length : Int) - 1 = wantN ((wordsB s).getD 0 tNil)
  rotate_left
  · exact line_none w g lb d s h hs hne
  have hl := (words_le s).2
  by_cases e0 : (wordsB s).getD 0 tNil = wExtend
  · refine line_extend w g lb d s h hlb hs e0 ?_
    rw [e0, show wantN wExtend = 2 by decide] at hne
    omega
  by_cases e1 : (wordsB s).getD 0 tNil = wDigest
  · refine line_digest w g lb d s h hlb hs e1 ?_
    rw [e1, show wantN wDigest = 1 by decide] at hne
    omega
  by_cases e2 : (wordsB s).getD 0 tNil = wPublic
  · refine line_public w g lb d s h hlb hs e2 ?_
    rw [e2, show wantN wPublic = 1 by decide] at hne
    omega
  by_cases e3 : (wordsB s).getD 0 tNil = wMeasure
  · refine line_measure w g lb d s h hlb hs e3 ?_
    rw [e3, show wantN wMeasure = 1 by decide] at hne
    omega
  by_cases e4 : (wordsB s).getD 0 tNil = wRaise
  · refine line_raise w g lb d s h hlb hs e4 ?_
    rw [e4, show wantN wRaise = 2 by decide] at hne
    omega
  by_cases e5 : (wordsB s).getD 0 tNil = wMay
  · refine line_may w g lb d s h hlb hs e5 ?_
    rw [e5, show wantN wMay = 2 by decide] at hne
    omega
  by_cases e6 : (wordsB s).getD 0 tNil = wSign
  · refine line_sign w g lb d s h hlb hs e6 ?_
    rw [e6, show wantN wSign = 3 by decide] at hne
    omega
  by_cases e7 : (wordsB s).getD 0 tNil = wCheck
  · refine line_check w g lb d s h hlb hs e7 ?_
    rw [e7, show wantN wCheck = 4 by decide] at hne
    omega
  exfalso
  have hw : wantN ((wordsB s).getD 0 tNil) = -1 := by unfold wantN; rw [if_neg e0, if_neg e1, if_neg e3, if_neg e4, if_neg e5, if_neg e2, if_neg e6, if_neg e7]
  omega

end Go.Proofs.YtegiffdlfpdbkaaGreatDoor
