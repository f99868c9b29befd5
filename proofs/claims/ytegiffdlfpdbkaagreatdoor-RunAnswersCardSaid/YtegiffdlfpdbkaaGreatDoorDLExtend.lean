/- The reference's desk: a line of the word 'extend'. -/
import Derived.Test.YtegiffdlfpdbkaaGreatDoorRows
import Derived.Test.YtegiffdlfpdbkaaGreatDoorNum
import Derived.Test.YtegiffdlfpdbkaaGreatDoorBase
import Derived.Test.YtegiffdlfpdbkaaGreatDoorApp
import Derived.Test.YtegiffdlfpdbkaaGreatDoorFoot
import Derived.Test.YtegiffdlfpdbkaaGreatDoorImg
import Derived.Test.YtegiffdlfpdbkaaGreatDoorCntP
import Derived.Test.YtegiffdlfpdbkaaGreatDoorNumP
import Derived.Test.YtegiffdlfpdbkaaGreatDoorParse
import Derived.Test.YtegiffdlfpdbkaaGreatDoorRefA
import Derived.Test.YtegiffdlfpdbkaaGreatDoorRefB
import Derived.Test.YtegiffdlfpdbkaaGreatDoorRefI
import Derived.Test.YtegiffdlfpdbkaaGreatDoorRefK
import Derived.Test.YtegiffdlfpdbkaaGreatDoorRefL
import Derived.Test.YtegiffdlfpdbkaaGreatDoorRefCut
import Derived.Test.YtegiffdlfpdbkaaGreatDoorRefNum
import Derived.Test.YtegiffdlfpdbkaaGreatDoorCutW
import Derived.Test.YtegiffdlfpdbkaaGreatDoorRCntD
import Derived.Test.YtegiffdlfpdbkaaGreatDoorRunP
import Derived.Test.YtegiffdlfpdbkaaGreatDoorRunL
import Derived.Test.YtegiffdlfpdbkaaGreatDoorRunS
import Derived.Test.YtegiffdlfpdbkaaGreatDoorRunT
import Derived.Test.YtegiffdlfpdbkaaGreatDoorRun1
import Derived.Test.YtegiffdlfpdbkaaGreatDoorRun3
import Derived.Test.YtegiffdlfpdbkaaGreatDoorRun4
import Derived.Test.YtegiffdlfpdbkaaGreatDoorRun5
import Derived.Test.YtegiffdlfpdbkaaGreatDoorDLine0
import Derived.WalkKit
import Derived.WalkSpells
import Derived.WalkLawsBesides
import Derived.Lib.Hide
import Derived.BigQuiet
import Derived.Deep.QuietTactic
import Derived.Deep.RegionHeld3
import Derived.Deep.DeepCutAuto
namespace Go.Proofs.YtegiffdlfpdbkaaGreatDoor
open Go.RowKit
set_option maxRecDepth 100000
set_option linter.unusedVariables false
set_option linter.unusedSimpArgs false

set_option maxHeartbeats 4000000 in
theorem line_extend (w : World) (g lb : Nat) (d : Dsk) (s : ByteArray) (h : RDA w g lb d) (hlb : lb < w.heap.size) (hs : s.size ≤ 3000) (hw0 : (wordsB s).getD 0 tNil = wExtend) (hL : (wordsB s).length = 3) :
    Calls Tryz.prog 8 #[.pointer (some ⟨g, 0, none⟩), .string s] w (LQ w g lb (lineR d (wordsB s))) := by
  have HCU := Lib.hid (fun w => rCutW s w (by omega))
  rw [hL] at HCU
  have hwz : ∀ i, i < 3 → ((wordsB s).getD i tNil).size ≤ 3000 := fun i hi => Nat.le_trans (word_at s i (by omega)) hs
  have HNUM := Lib.hid (fun (s : ByteArray) (w : World) (h : s.size ≤ 3000) => rNumber_k 7 (Nat.le_refl 7) s w (by omega))
  have HD := Lib.hid h
  have HLB := Lib.hid (And.intro h.lt hlb)
  obtain ⟨ws, hws⟩ : ∃ ws, wordsB s = ws := ⟨_, rfl⟩
  rw [hws] at HCU hwz hw0 hL ⊢
  have HLR : Hid (lineR d ws = (match numsOf (ws.drop 1) with | some ns => plainR d wExtend ns | none => (tBad, d))) := Lib.hid (by
    unfold lineR
    rw [hw0, hL, if_pos (by decide), if_neg (by decide)]
    cases numsOf (ws.drop 1) <;> rfl)
  have HDL : Hid ((ws.drop 1).length = 2) := Lib.hid (by rw [List.length_drop, hL])
  obtain ⟨ds, hds⟩ : ∃ ds, ws.drop 1 = ds := ⟨_, rfl⟩
  have HDS : Hid (∀ i, ds.getD i tNil = ws.getD (1 + i) tNil) := Lib.hid (fun i => by rw [← hds, List.getD_eq_getElem?_getD, List.getElem?_drop, ← List.getD_eq_getElem?_getD])
  rw [hds] at HLR HDL
  have HW0 := Lib.hid hw0
  have HL := Lib.hid hL
  have HWZ := Lib.hid hwz
  clear h hlb hs hw0 hL hwz hws hds
  go_enter Tryz.func8, Tryz.ntmps8
  go_wp2_with fail
  refine (HCU.out _).mono ?_
  rintro e w1 ⟨A, cp, rfl, hC, hbase, hb1⟩
  obtain ⟨b0, off, rfl, lb0, hc⟩ := cells_words hC (by rw [HL.out]; omega)
  have HBS : Hid (w.heap.size ≤ b0) := Lib.hid (hbase _ rfl)
  clear hbase
  have HC1 := Lib.hid hc
  have c0 : w1.cell? ⟨b0, off, none⟩ = some (.string wExtend) := by
    have h1 := hc 0 (by rw [HL.out]; omega)
    rw [HW0.out] at h1
    exact h1
  have HW1 := Lib.hid hb1
  clear hc hC hb1
  go_wp2_with fail
  go_loopw [9, 10, 11, 12] (fun n i _ _ wr => ∃ (k n1 : Nat) (A1 : Option Addr) (cc : Nat) (ns : List Int), n = .slice A1 n1 cc ∧ i = .int .i64 ((k + 1 : Nat) : Int) ∧ k ≤ 2 ∧ n1 ≤ 4 ∧ Hid (n1 = ns.length) ∧ Hid (ns.length = k) ∧ Hid (numsOf (ds.take k) = some ns) ∧ Hid (OwnI wr w1.heap.size A1 cc ns) ∧ Below w1.heap.size w1 wr) (fun _ i _ _ _ => 3 - (intOf i).toNat)
  case atStart => exact ⟨0, 0, none, 0, [], rfl, rfl, by omega, by omega, Lib.hid rfl, Lib.hid rfl, Lib.hid rfl, Lib.hid (OwnI.start _ _), grow_refl _⟩
  case round =>
    obtain ⟨k, n1, A1, cc, ns, rfl, rfl, hk, hn1, HN1, HNK, HNS, HO, hb⟩ := hrel
    by_cases hlt : k < 2
    · have g1 : ((k + 1 : Nat) : Int) < 3 := by omega
      obtain ⟨t, ht⟩ : ∃ t, ds.getD k tNil = t := ⟨_, rfl⟩
      have hkd : k < ds.length := by rw [HDL.out]; exact hlt
      have hls : ds = ds.take k ++ t :: ds.drop (k + 1) := by
        have h1 := (List.take_append_drop k ds).symm
        rw [drop_cons ds tNil k hkd, ht] at h1
        exact h1
      have ct : wr.cell? ⟨b0, off + (k + 1), none⟩ = some (.string t) := by
        have h1 := HC1.out (1 + k) (by rw [HL.out]; omega)
        rw [← HDS.out, ht, Nat.add_comm 1 k] at h1
        exact (hb.cell (p := ⟨b0, off + (k + 1), none⟩) lb0).trans h1
      have lbr := Nat.lt_of_lt_of_le lb0 hb.size
      have htz : t.size ≤ 3000 := by rw [← ht, HDS.out]; exact HWZ.out _ (by omega)
      have HNT := Lib.hid (HNUM.out t wr htz)
      have HTK : Hid (ds.take (k + 1) = ds.take k ++ [t]) := Lib.hid (by
        rw [List.take_succ_eq_append_getElem hkd, ← ht, List.getD_eq_getElem?_getD, List.getElem?_eq_getElem hkd]; rfl)
      have HLS := Lib.hid hls
      clear ht hls hkd htz
      cases hok : (numK 7 t).2
      · rw [hok] at HNT
        have HBAD : Hid (lineR d ws = (tBad, d)) := Lib.hid (by
          rw [HLR.out, show numsOf ds = none from by rw [HLS.out]; exact numsOf_bad hok])
        clear hok
        go_wp2_with fail
        refine HNT.out.mono ?_
        rintro e w2 ⟨rfl, q⟩
        obtain rfl : wr = w2 := q
        have hWr := grow_step HW1.out hb
        go_wp2_with fail
        go_ret
        exact lq_same HBAD.out HD.out hWr
      · rw [hok] at HNT
        have HOK := Lib.hid hok
        obtain ⟨v, hv⟩ : ∃ v, (numK 7 t).1 = v := ⟨_, rfl⟩
        rw [hv] at HNT
        have HV := Lib.hid hv
        obtain rfl : n1 = ns.length := HN1.out
        clear hok hv
        go_wp2_with fail
        refine HNT.out.mono ?_
        rintro e w2 ⟨rfl, q⟩
        obtain rfl : wr = w2 := q
        go_wp2_with (at_builtin; refine app_ints rfl _ _ rfl w1.heap.size A1 cc ns rfl (HO.out.below ((Below.refl _ _).alloc (Nat.le_refl _) _)) _ 1 [v] rfl (IntsAt.new_ _ _ [v] _) (by simp; omega) (grow_alloc hb _).size ?_; intro A2 c2 zs2 w3 hz2 ho2 hb2)
        have hw3 : Below w1.heap.size w1 w3 := grow_base (grow_alloc hb _) hb2
        go_roundw
        case rel =>
          refine ⟨k + 1, zs2.length, A2, c2, zs2, rfl, by go_num, by omega, by rw [hz2.out]; simp; have := HNK.out; omega, Lib.hid rfl, Lib.hid (by rw [hz2.out]; simp; exact HNK.out), Lib.hid ?_, Lib.hid ho2, hw3⟩
          rw [HTK.out, numsOf_app, HNS.out, numsOf_one HOK.out HV.out.symm, hz2.out]; rfl
        case measure => simp only [intOf]; omega
    · have hkk : k = 2 := by omega
      subst hkk
      have hall : numsOf ds = some ns := by
        have h1 := HNS.out
        rw [List.take_of_length_le (by rw [HDL.out]; omega)] at h1
        exact h1
      have hnl : ns.length = 2 := HNK.out
      obtain rfl : n1 = ns.length := HN1.out
      have hnb := numsOf_at hall
      obtain ⟨x, y, rfl⟩ : ∃ x y, ns = [x, y] := by
        match ns, hnl with
        | [x, y], _ => exact ⟨x, y, rfl⟩
      have HOUT : Hid (lineR d ws = plainR d wExtend [x, y]) := Lib.hid (by rw [HLR.out, hall])
      have bx : 0 ≤ x ∧ x ≤ 9999999 := hnb 0
      have by_ : 0 ≤ y ∧ y ≤ 9999999 := hnb 1
      obtain ⟨b1, o1, rfl, lb1, hcn⟩ : ∃ b1 o1, A1 = some ⟨b1, o1, none⟩ ∧ b1 < wr.heap.size ∧ ∀ j, j < 2 → wr.cell? ⟨b1, o1 + j, none⟩ = some (.int .i64 (([x, y] : List Int).getD j 0)) := by
        obtain ⟨b1, o1, e1, l1, h1⟩ := HO.out.ints 0 (by simp)
        subst e1
        exact ⟨b1, o1, rfl, l1, fun j hj => ints_cell HO.out.ints j hj⟩
      have HB1 : Hid (w1.heap.size ≤ b1) := Lib.hid (by
        rcases HO.out.2 with ⟨h2, _⟩ | ⟨g1, cap, cur, hv, hg, _⟩
        · cases h2
        · injection hv with hv
          injection hv with hv
          injection hv with hv
          omega)
      have n0 : wr.cell? ⟨b1, o1, none⟩ = some (.int .i64 x) := hcn 0 (by omega)
      have n1 : wr.cell? ⟨b1, o1 + 1, none⟩ = some (.int .i64 y) := hcn 1 (by omega)
      have c0r := (hb.cell (p := ⟨b0, off, none⟩) lb0).trans c0
      have lbr := Nat.lt_of_lt_of_le lb0 hb.size
      have HWr := Lib.hid (grow_step HW1.out hb)
      have HDR := Lib.hid (HD.out.below HWr.out)
      clear hlt hall hnl hnb hk hn1 HN1 HNK HNS HO c0 hb hcn
      have HIS := Lib.hid (fun w => rIs_any y w)
      have hlr : lineR d ws = (if extE d.bank x y = 0 then (itoaS ((extB d.bank x y).getD x.toNat 0), { d with bank := extB d.bank x y }) else (errN (extE d.bank x y), d)) := by
        rw [HOUT.out]
        unfold plainR
        rw [if_pos rfl]; rfl
      have HLR2 := Lib.hid hlr
      have HNA := Lib.hid (fun w => name_any 1 (by decide) (by decide) w)
      have hokb := HDR.out.2.ok
      clear hlr
      by_cases hx : 7 < x
      · have HR : Hid (lineR d ws = (errN 1, d)) := Lib.hid (by
          have e1 : extE d.bank x y = 1 := by
            unfold extE extOk okReg
            rw [decide_eq_false (show ¬ (0 ≤ x ∧ x ≤ 7) by omega), Bool.and_false, Bool.false_and]; rfl
          rw [HLR2.out, e1, if_neg (by decide)])
        obtain ⟨M, hM⟩ : ∃ M, okM y = M := ⟨_, rfl⟩
        rw [hM] at HIS
        clear bx by_ hM hokb
        go_wp2_with fail
        refine (HIS.out _).mono ?_
        rintro e w2 ⟨rfl, q⟩
        obtain rfl : wr = w2 := q
        go_wp2_with fail
        refine (HNA.out _).mono ?_
        rintro e w2 ⟨rfl, hb2⟩
        go_wp2_with fail
        go_ret
        exact lq_same HR.out HD.out (grow_step HWr.out hb2)
      cases hM : okM y
      · have HR : Hid (lineR d ws = (errN 1, d)) := Lib.hid (by
          have e1 : extE d.bank x y = 1 := by
            unfold extE extOk
            rw [hM, Bool.and_false]; rfl
          rw [HLR2.out, e1, if_neg (by decide)])
        rw [hM] at HIS
        clear bx by_ hM hokb
        go_wp2_with fail
        refine (HIS.out _).mono ?_
        rintro e w2 ⟨rfl, q⟩
        obtain rfl : wr = w2 := q
        go_wp2_with fail
        refine (HNA.out _).mono ?_
        rintro e w2 ⟨rfl, hb2⟩
        go_wp2_with fail
        go_ret
        exact lq_same HR.out HD.out (grow_step HWr.out hb2)
      · rw [hM] at HIS
        obtain ⟨q, rfl⟩ : ∃ q : Nat, x = q := ⟨x.toNat, by omega⟩
        have hq8 : q < 8 := by omega
        have e0 : extOk d.bank (q : Int) y = true := by
          unfold extOk okReg
          rw [hokb, hM, decide_eq_true (show 0 ≤ (q : Int) ∧ (q : Int) ≤ 7 by omega)]; rfl
        have e1 : extE d.bank (q : Int) y = 0 := by unfold extE; rw [e0]; rfl
        have e2 : extB d.bank (q : Int) y = d.bank.set q (pairM (d.bank.getD q 0) y) := by unfold extB; rw [e0, if_pos rfl, Int.toNat_natCast]
        have hbl := HDR.out.2.len
        have hok2 := lineR_ok HDR.out.2 ws
        rw [HLR2.out, e1, if_pos rfl, e2] at hok2
        have hbv : okM (d.bank.getD q 0) = true := List.all_eq_true.1 hokb _ (getD_mem _ _ _ (by omega))
        obtain ⟨cq, fq⟩ := HDR.out.cell q hq8
        have lg := HDR.out.lt
        have HTW := Lib.hid (fun w => rTwo_any (d.bank.getD q 0) y w hbv hM)
        have pb := okM_yes (pairM_ok (d.bank.getD q 0) y)
        have HDI := Lib.hid (fun w => rDigits_any (pairM (d.bank.getD q 0) y) w (by omega) (by omega))
        have HR : Hid (lineR d ws = (itoaS (pairM (d.bank.getD q 0) y), { d with bank := d.bank.set q (pairM (d.bank.getD q 0) y) })) := Lib.hid (by
          rw [HLR2.out, e1, if_pos rfl, e2, Int.toNat_natCast]
          have e3 : (d.bank.set q (pairM (d.bank.getD q 0) y)).getD q 0 = pairM (d.bank.getD q 0) y := by
            rw [List.getD_eq_getElem?_getD, List.getElem?_set_self (by omega)]; rfl
          rw [e3])
        have HSET := Lib.hid (fun (w' : World) (h : RDA w' g lb d) => RDA.set h q hq8 (pairM (d.bank.getD q 0) y) hok2)
        obtain ⟨V, hV⟩ : ∃ V, pairM (d.bank.getD q 0) y = V := ⟨_, rfl⟩
        obtain ⟨U, hU⟩ : ∃ U, d.bank.getD q 0 = U := ⟨_, rfl⟩
        rw [hV] at HTW HDI HR HSET
        rw [hU] at HTW cq
        have g1 : (q : Int) < 8 := by omega
        have g2 : ¬ (7 : Int) < (q : Int) := by omega
        clear bx by_ hM hokb hx e0 e1 e2 hbl hok2 hbv pb hV hU
        have hgb : g ≠ b1 := by have h1 := HB1.out; have h2 := HLB.out; have h3 := HW1.out.size; omega
        go_wp2_with fail
        refine (HIS.out _).mono ?_
        rintro e w2 ⟨rfl, qq⟩
        obtain rfl : wr = w2 := qq
        go_upto_region 41 with fail
        have HE3 : Hid ((d.bank.set q V).getD q 0 = V) := Lib.hid (by
          rw [List.getD_eq_getElem?_getD, List.getElem?_set_self (by have := HDR.out.2.len; omega)]; rfl)
        go_cut [] (fun wx => Hid (RDA wx g lb { d with bank := d.bank.set q V }) ∧ Hid (But (fun k => k = g) wr wx))
        case first =>
          go_region_with (go_at_call 19; refine (HTW.out _).mono ?_; rintro e w5 ⟨rfl, rfl⟩)
          all_goals
            go_wp2_with fail
            go_meet
            exact ⟨Lib.hid (HSET.out _ HDR.out), Lib.hid (((But.refl (fun k => k = g) wr).setCell (p := ⟨g, 1 + q, none⟩) (Or.inl rfl) _).drew)⟩
        case rest =>
          obtain ⟨HRD, HK⟩ := hcut
          have n0q : wc.cell? ⟨b1, o1, none⟩ = some (.int .i64 (q : Int)) := (World.cell?_of_block (HK.out.block b1 lb1 (fun e => hgb e.symm))).trans n0
          have cqq : wc.cell? ⟨g, 1 + q, none⟩ = some (.int .i64 V) := by
            have h1 := (HRD.out.cell q hq8).1
            rw [show ({ d with bank := d.bank.set q V } : Dsk).bank.getD q 0 = V from HE3.out] at h1
            exact h1
          have lgq := HRD.out.lt
          have lbq := Nat.lt_of_lt_of_le lb1 HK.out.size
          have HNC := Lib.hid (And.intro n0q cqq)
          have GW := grow_drew (grow_refl wc)
          clear n0 n1 cq fq lg
          go_upto_region 42 with fail
          go_region_held3 (fun w' => w'.cell? ⟨b1, o1, none⟩ = some (.int .i64 (q : Int)) ∧ w'.cell? ⟨g, 1 + q, none⟩ = some (.int .i64 V))
            (first
              | exact ⟨(GW.cell (p := ⟨b1, o1, none⟩) lbq).trans HNC.out.1, (GW.cell (p := ⟨g, 1 + q, none⟩) lgq).trans HNC.out.2⟩
              | (go_keep; done))
            (first
              | (go_at_call 9; refine (HDI.out _).mono ?_; rintro e w6 ⟨rfl, rfl⟩))
          go_wp2_with fail
          go_ret
          rw [HR.out]
          refine ⟨rfl, ⟨lb, HRD.out.below GW, Or.inl rfl⟩, ?_⟩
          exact ((below_but HWr.out (fun k => k = g ∨ k = lb)).trans (HK.out.mono (S' := fun k => k = g ∨ k = lb) (fun _ _ h => Or.inl h)) (fun _ _ h => h)).trans (below_but GW (fun k => k = g ∨ k = lb)) (fun _ _ h => h)


end Go.Proofs.YtegiffdlfpdbkaaGreatDoor
