/- The reference's desk: a line of the word 'sign'. -/
import Derived.Test.YtegiffdlfpdbkaaGreatDoorRows
import Derived.Test.YtegiffdlfpdbkaaGreatDoorNum
import Derived.Test.YtegiffdlfpdbkaaGreatDoorBase
import Derived.Test.YtegiffdlfpdbkaaGreatDoorApp
import Derived.Test.YtegiffdlfpdbkaaGreatDoorFoot
import Derived.Test.YtegiffdlfpdbkaaGreatDoorImg
import Derived.Test.YtegiffdlfpdbkaaGreatDoorCntP
import Derived.Test.YtegiffdlfpdbkaaGreatDoorNumP
import Derived.Test.YtegiffdlfpdbkaaGreatDoorParse
import Derived.Test.YtegiffdlfpdbkaaGreatDoorRefA
import Derived.Test.YtegiffdlfpdbkaaGreatDoorRefB
import Derived.Test.YtegiffdlfpdbkaaGreatDoorRefI
import Derived.Test.YtegiffdlfpdbkaaGreatDoorRefK
import Derived.Test.YtegiffdlfpdbkaaGreatDoorRefL
import Derived.Test.YtegiffdlfpdbkaaGreatDoorRefCut
import Derived.Test.YtegiffdlfpdbkaaGreatDoorRefNum
import Derived.Test.YtegiffdlfpdbkaaGreatDoorCutW
import Derived.Test.YtegiffdlfpdbkaaGreatDoorRCntD
import Derived.Test.YtegiffdlfpdbkaaGreatDoorRunP
import Derived.Test.YtegiffdlfpdbkaaGreatDoorRunL
import Derived.Test.YtegiffdlfpdbkaaGreatDoorRunS
import Derived.Test.YtegiffdlfpdbkaaGreatDoorRunT
import Derived.Test.YtegiffdlfpdbkaaGreatDoorRun1
import Derived.Test.YtegiffdlfpdbkaaGreatDoorRun3
import Derived.Test.YtegiffdlfpdbkaaGreatDoorRun4
import Derived.Test.YtegiffdlfpdbkaaGreatDoorRun5
import Derived.Test.YtegiffdlfpdbkaaGreatDoorDLine0
import Derived.WalkKit
import Derived.WalkSpells
import Derived.WalkLawsBesides
import Derived.Lib.Hide
import Derived.BigQuiet
import Derived.Deep.QuietTactic
import Derived.Deep.RegionHeld3
import Derived.Deep.DeepCutAuto
namespace Go.Proofs.YtegiffdlfpdbkaaGreatDoor
open Go.RowKit
set_option maxRecDepth 100000
set_option linter.unusedVariables false
set_option linter.unusedSimpArgs false

set_option maxHeartbeats 4000000 in
theorem line_sign (w : World) (g lb : Nat) (d : Dsk) (s : ByteArray) (h : RDA w g lb d) (hlb : lb < w.heap.size) (hs : s.size ≤ 3000) (hw0 : (wordsB s).getD 0 tNil = wSign) (hL : (wordsB s).length = 4) :
    Calls Tryz.prog 8 #[.pointer (some ⟨g, 0, none⟩), .string s] w (LQ w g lb (lineR d (wordsB s))) := by
  have HCU := Lib.hid (fun w => rCutW s w (by omega))
  rw [hL] at HCU
  have hwz : ∀ i, i < 4 → ((wordsB s).getD i tNil).size ≤ 3000 := fun i hi => Nat.le_trans (word_at s i (by omega)) hs
  have HNUM := Lib.hid (fun (s : ByteArray) (w : World) (h : s.size ≤ 3000) => rNumber_k 7 (Nat.le_refl 7) s w (by omega))
  have HD := Lib.hid h
  have HLB := Lib.hid (And.intro h.lt hlb)
  obtain ⟨ws, hws⟩ : ∃ ws, wordsB s = ws := ⟨_, rfl⟩
  rw [hws] at HCU hwz hw0 hL ⊢
  have HLR : Hid (lineR d ws = (match numsOf (ws.drop 1) with | some ns => plainR d wSign ns | none => (tBad, d))) := Lib.hid (by
    unfold lineR
    rw [hw0, hL, if_pos (by decide), if_neg (by decide)]
    cases numsOf (ws.drop 1) <;> rfl)
  have HDL : Hid ((ws.drop 1).length = 3) := Lib.hid (by rw [List.length_drop, hL])
  obtain ⟨ds, hds⟩ : ∃ ds, ws.drop 1 = ds := ⟨_, rfl⟩
  have HDS : Hid (∀ i, ds.getD i tNil = ws.getD (1 + i) tNil) := Lib.hid (fun i => by rw [← hds, List.getD_eq_getElem?_getD, List.getElem?_drop, ← List.getD_eq_getElem?_getD])
  rw [hds] at HLR HDL
  have HW0 := Lib.hid hw0
  have HL := Lib.hid hL
  have HWZ := Lib.hid hwz
  clear h hlb hs hw0 hL hwz hws hds
  go_enter Tryz.func8, Tryz.ntmps8
  go_wp2_with fail
  refine (HCU.out _).mono ?_
  rintro e w1 ⟨A, cp, rfl, hC, hbase, hb1⟩
  obtain ⟨b0, off, rfl, lb0, hc⟩ := cells_words hC (by rw [HL.out]; omega)
  have HBS : Hid (w.heap.size ≤ b0) := Lib.hid (hbase _ rfl)
  clear hbase
  have HC1 := Lib.hid hc
  have c0 : w1.cell? ⟨b0, off, none⟩ = some (.string wSign) := by
    have h1 := hc 0 (by rw [HL.out]; omega)
    rw [HW0.out] at h1
    exact h1
  have HW1 := Lib.hid hb1
  clear hc hC hb1
  go_wp2_with fail
  go_loopw [9, 10, 11, 12] (fun n i _ _ wr => ∃ (k n1 : Nat) (A1 : Option Addr) (cc : Nat) (ns : List Int), n = .slice A1 n1 cc ∧ i = .int .i64 ((k + 1 : Nat) : Int) ∧ k ≤ 3 ∧ n1 ≤ 4 ∧ Hid (n1 = ns.length) ∧ Hid (ns.length = k) ∧ Hid (numsOf (ds.take k) = some ns) ∧ Hid (OwnI wr w1.heap.size A1 cc ns) ∧ Below w1.heap.size w1 wr) (fun _ i _ _ _ => 4 - (intOf i).toNat)
  case atStart => exact ⟨0, 0, none, 0, [], rfl, rfl, by omega, by omega, Lib.hid rfl, Lib.hid rfl, Lib.hid rfl, Lib.hid (OwnI.start _ _), grow_refl _⟩
  case round =>
    obtain ⟨k, n1, A1, cc, ns, rfl, rfl, hk, hn1, HN1, HNK, HNS, HO, hb⟩ := hrel
    by_cases hlt : k < 3
    · have g1 : ((k + 1 : Nat) : Int) < 4 := by omega
      obtain ⟨t, ht⟩ : ∃ t, ds.getD k tNil = t := ⟨_, rfl⟩
      have hkd : k < ds.length := by rw [HDL.out]; exact hlt
      have hls : ds = ds.take k ++ t :: ds.drop (k + 1) := by
        have h1 := (List.take_append_drop k ds).symm
        rw [drop_cons ds tNil k hkd, ht] at h1
        exact h1
      have ct : wr.cell? ⟨b0, off + (k + 1), none⟩ = some (.string t) := by
        have h1 := HC1.out (1 + k) (by rw [HL.out]; omega)
        rw [← HDS.out, ht, Nat.add_comm 1 k] at h1
        exact (hb.cell (p := ⟨b0, off + (k + 1), none⟩) lb0).trans h1
      have lbr := Nat.lt_of_lt_of_le lb0 hb.size
      have htz : t.size ≤ 3000 := by rw [← ht, HDS.out]; exact HWZ.out _ (by omega)
      have HNT := Lib.hid (HNUM.out t wr htz)
      have HTK : Hid (ds.take (k + 1) = ds.take k ++ [t]) := Lib.hid (by
        rw [List.take_succ_eq_append_getElem hkd, ← ht, List.getD_eq_getElem?_getD, List.getElem?_eq_getElem hkd]; rfl)
      have HLS := Lib.hid hls
      clear ht hls hkd htz
      cases hok : (numK 7 t).2
      · rw [hok] at HNT
        have HBAD : Hid (lineR d ws = (tBad, d)) := Lib.hid (by
          rw [HLR.out, show numsOf ds = none from by rw [HLS.out]; exact numsOf_bad hok])
        clear hok
        go_wp2_with fail
        refine HNT.out.mono ?_
        rintro e w2 ⟨rfl, q⟩
        obtain rfl : wr = w2 := q
        have hWr := grow_step HW1.out hb
        go_wp2_with fail
        go_ret
        exact lq_same HBAD.out HD.out hWr
      · rw [hok] at HNT
        have HOK := Lib.hid hok
        obtain ⟨v, hv⟩ : ∃ v, (numK 7 t).1 = v := ⟨_, rfl⟩
        rw [hv] at HNT
        have HV := Lib.hid hv
        obtain rfl : n1 = ns.length := HN1.out
        clear hok hv
        go_wp2_with fail
        refine HNT.out.mono ?_
        rintro e w2 ⟨rfl, q⟩
        obtain rfl : wr = w2 := q
        go_wp2_with (at_builtin; refine app_ints rfl _ _ rfl w1.heap.size A1 cc ns rfl (HO.out.below ((Below.refl _ _).alloc (Nat.le_refl _) _)) _ 1 [v] rfl (IntsAt.new_ _ _ [v] _) (by simp; omega) (grow_alloc hb _).size ?_; intro A2 c2 zs2 w3 hz2 ho2 hb2)
        have hw3 : Below w1.heap.size w1 w3 := grow_base (grow_alloc hb _) hb2
        go_roundw
        case rel =>
          refine ⟨k + 1, zs2.length, A2, c2, zs2, rfl, by go_num, by omega, by rw [hz2.out]; simp; have := HNK.out; omega, Lib.hid rfl, Lib.hid (by rw [hz2.out]; simp; exact HNK.out), Lib.hid ?_, Lib.hid ho2, hw3⟩
          rw [HTK.out, numsOf_app, HNS.out, numsOf_one HOK.out HV.out.symm, hz2.out]; rfl
        case measure => simp only [intOf]; omega
    · have hkk : k = 3 := by omega
      subst hkk
      have hall : numsOf ds = some ns := by
        have h1 := HNS.out
        rw [List.take_of_length_le (by rw [HDL.out]; omega)] at h1
        exact h1
      have hnl : ns.length = 3 := HNK.out
      obtain rfl : n1 = ns.length := HN1.out
      have hnb := numsOf_at hall
      obtain ⟨x, y, z, rfl⟩ : ∃ x y z, ns = [x, y, z] := by
        match ns, hnl with
        | [x, y, z], _ => exact ⟨x, y, z, rfl⟩
      have HOUT : Hid (lineR d ws = plainR d wSign [x, y, z]) := Lib.hid (by rw [HLR.out, hall])
      have bx : 0 ≤ x ∧ x ≤ 9999999 := hnb 0
      have by_ : 0 ≤ y ∧ y ≤ 9999999 := hnb 1
      have bz : 0 ≤ z ∧ z ≤ 9999999 := hnb 2
      obtain ⟨b1, o1, rfl, lb1, hcn⟩ : ∃ b1 o1, A1 = some ⟨b1, o1, none⟩ ∧ b1 < wr.heap.size ∧ ∀ j, j < 3 → wr.cell? ⟨b1, o1 + j, none⟩ = some (.int .i64 (([x, y, z] : List Int).getD j 0)) := by
        obtain ⟨b1, o1, e1, l1, h1⟩ := HO.out.ints 0 (by simp)
        subst e1
        exact ⟨b1, o1, rfl, l1, fun j hj => ints_cell HO.out.ints j hj⟩
      have HB1 : Hid (w1.heap.size ≤ b1) := Lib.hid (by
        rcases HO.out.2 with ⟨h2, _⟩ | ⟨g1, cap, cur, hv, hg, _⟩
        · cases h2
        · injection hv with hv
          injection hv with hv
          injection hv with hv
          omega)
      have n0 : wr.cell? ⟨b1, o1, none⟩ = some (.int .i64 x) := hcn 0 (by omega)
      have n1 : wr.cell? ⟨b1, o1 + 1, none⟩ = some (.int .i64 y) := hcn 1 (by omega)
      have n2 : wr.cell? ⟨b1, o1 + 2, none⟩ = some (.int .i64 z) := hcn 2 (by omega)
      have c0r := (hb.cell (p := ⟨b0, off, none⟩) lb0).trans c0
      have lbr := Nat.lt_of_lt_of_le lb0 hb.size
      have HWr := Lib.hid (grow_step HW1.out hb)
      have HDR := Lib.hid (HD.out.below HWr.out)
      clear hlt hall hnl hnb hk hn1 HN1 HNK HNS HO c0 hb hcn
      have HSG := Lib.hid (fun w => rSigned_any x y z w)
      have HCC := Lib.hid (And.intro n0 (And.intro n1 n2))
      have hlr : lineR d ws = (if sgE x y z = 0 then itoaS (sgP x y z) ++ tSp ++ itoaS (sgA x y z) else errN (sgE x y z), d) := by
        rw [HOUT.out]
        unfold plainR
        rw [if_neg (by decide), if_neg (by decide), if_neg (by decide), if_pos rfl]; rfl
      have HLR2 := Lib.hid hlr
      have GW := grow_drew (grow_refl wr)
      clear hlr n0 n1 n2
      cases hok : okSign x y z
      · have e1 : sgE x y z = 1 := by unfold sgE; rw [hok]; rfl
        rw [e1] at HSG
        have HR : Hid (lineR d ws = (errN 1, d)) := Lib.hid (by rw [HLR2.out, e1, if_neg (by decide)])
        have HNA := Lib.hid (fun w => name_any 1 (by decide) (by decide) w)
        clear hok e1 bx by_ bz
        go_upto_region 64 with fail
        go_region_held3 (fun w' => w'.cell? ⟨b1, o1, none⟩ = some (.int .i64 x) ∧ w'.cell? ⟨b1, o1 + 1, none⟩ = some (.int .i64 y) ∧ w'.cell? ⟨b1, o1 + 2, none⟩ = some (.int .i64 z))
          (first
            | exact ⟨(GW.cell (p := ⟨b1, o1, none⟩) lb1).trans HCC.out.1, (GW.cell (p := ⟨b1, o1 + 1, none⟩) lb1).trans HCC.out.2.1, (GW.cell (p := ⟨b1, o1 + 2, none⟩) lb1).trans HCC.out.2.2⟩
            | (go_keep; done))
          (first
            | (go_at_call 27; refine (HSG.out _).mono ?_; rintro e w5 ⟨rfl, rfl⟩))
        have hWe := grow_step HWr.out GW
        go_wp2_with fail
        refine (HNA.out _).mono ?_
        rintro e w6 ⟨rfl, hb6⟩
        have hWf := grow_step hWe hb6
        go_wp2_with fail
        go_ret
        exact lq_same HR.out HD.out hWf
      · have e1 : sgE x y z = 0 := by unfold sgE; rw [hok]; rfl
        rw [e1] at HSG
        have hoks : okSecret x = true ∧ okSecret y = true ∧ okM z = true := by
          unfold okSign at hok
          simp only [Bool.and_eq_true] at hok
          exact ⟨hok.1.1, hok.1.2, hok.2⟩
        have HSI := Lib.hid (fun w => rSign_any x y z w hoks.1 hoks.2.1 hoks.2.2)
        have HR : Hid (lineR d ws = (itoaS (pwI 64 y) ++ tSp ++ itoaS (sealA x y z), d)) := Lib.hid (by
          rw [HLR2.out, e1, if_pos rfl]
          have s3 : sgP x y z = pwI 64 y := by unfold sgP; rw [hok]; rfl
          have s4 : sgA x y z = sealA x y z := by unfold sgA; rw [hok]; rfl
          rw [s3, s4])
        have pb := pwI_bd 64 y
        have ab : 0 ≤ sealA x y z ∧ sealA x y z ≤ 256 := by unfold sealA; omega
        obtain ⟨P, hP⟩ : ∃ P, pwI 64 y = P := ⟨_, rfl⟩
        obtain ⟨Z, hZ⟩ : ∃ Z, sealA x y z = Z := ⟨_, rfl⟩
        rw [hP, hZ] at HSI HR
        rw [hP] at pb
        rw [hZ] at ab
        have HDP := Lib.hid (fun w => rDigits_any P w (by omega) (by omega))
        have HDZ := Lib.hid (fun w => rDigits_any Z w (by omega) (by omega))
        have z1 := itoa_len8 (v := P) pb.1 (by omega)
        have z2 := itoa_len8 (v := Z) ab.1 (by omega)
        have zs : (tSp : ByteArray).size = 1 := rfl
        have f1 : ∀ w, (Op.stringOp .add (itoaS P) { data := #[32] }).run Tryz.prog w = .ok (.string (itoaS P ++ tSp)) w := fun w => run_string_add_sum _ _ _ (by show (itoaS P).size + (tSp : ByteArray).size ≤ _; omega)
        have f2 : ∀ w, (Op.stringOp .add (itoaS P ++ tSp) (itoaS Z)).run Tryz.prog w = .ok (.string (itoaS P ++ tSp ++ itoaS Z)) w := fun w => run_string_add_sum _ _ _ (by rw [ByteArray.size_append]; show (itoaS P).size + (tSp : ByteArray).size + (itoaS Z).size ≤ _; omega)
        clear hok e1 hoks bx by_ bz pb ab hP hZ z1 z2 zs
        go_upto_region 64 with fail
        go_region_held3 (fun w' => w'.cell? ⟨b1, o1, none⟩ = some (.int .i64 x) ∧ w'.cell? ⟨b1, o1 + 1, none⟩ = some (.int .i64 y) ∧ w'.cell? ⟨b1, o1 + 2, none⟩ = some (.int .i64 z))
          (first
            | exact ⟨(GW.cell (p := ⟨b1, o1, none⟩) lb1).trans HCC.out.1, (GW.cell (p := ⟨b1, o1 + 1, none⟩) lb1).trans HCC.out.2.1, (GW.cell (p := ⟨b1, o1 + 2, none⟩) lb1).trans HCC.out.2.2⟩
            | (go_keep; done))
          (first
            | (go_at_call 27; refine (HSG.out _).mono ?_; rintro e w5 ⟨rfl, rfl⟩))
        have GW1 := GW
        have HGW := Lib.hid GW
        obtain ⟨wq, hwq⟩ : ∃ wq, wr.drew = wq := ⟨_, rfl⟩
        rw [hwq] at HGW GW GW1 ⊢
        have lq1 : b1 < wq.heap.size := Nat.lt_of_lt_of_le lb1 GW1.size
        have HCQ := Lib.hid (And.intro ((GW1.cell (p := ⟨b1, o1, none⟩) lb1).trans HCC.out.1) (And.intro ((GW1.cell (p := ⟨b1, o1 + 1, none⟩) lb1).trans HCC.out.2.1) ((GW1.cell (p := ⟨b1, o1 + 2, none⟩) lb1).trans HCC.out.2.2)))
        clear GW GW1 hwq
        go_upto_region 67 with fail
        go_cut [17] (fun p wx => ∃ gx : Nat, p = .pointer (some ⟨gx, 0, none⟩) ∧ Hid (Box wx gx 68 #[.int .i64 P, .int .i64 Z]) ∧ Hid (Below wq.heap.size wq wx))
        case first =>
          have GW := grow_drew (grow_refl wq)
          have GX := (Box.new wq 68 #[.int .i64 0, .int .i64 0]).drew_
          have W2 := grow_drew (grow_alloc (grow_refl wq) (.cells #[.int .i64 0, .int .i64 0] 68))
          go_region_held3 (fun w' => w'.cell? ⟨b1, o1, none⟩ = some (.int .i64 x) ∧ w'.cell? ⟨b1, o1 + 1, none⟩ = some (.int .i64 y) ∧ w'.cell? ⟨b1, o1 + 2, none⟩ = some (.int .i64 z))
            (first
              | exact ⟨(GW.cell (p := ⟨b1, o1, none⟩) lq1).trans HCQ.out.1, (GW.cell (p := ⟨b1, o1 + 1, none⟩) lq1).trans HCQ.out.2.1, (GW.cell (p := ⟨b1, o1 + 2, none⟩) lq1).trans HCQ.out.2.2⟩
              | exact ⟨(W2.cell (p := ⟨b1, o1, none⟩) lq1).trans HCQ.out.1, (W2.cell (p := ⟨b1, o1 + 1, none⟩) lq1).trans HCQ.out.2.1, (W2.cell (p := ⟨b1, o1 + 2, none⟩) lq1).trans HCQ.out.2.2⟩
              | exact ⟨((grow_alloc GW _).cell (p := ⟨b1, o1, none⟩) lq1).trans HCQ.out.1, ((grow_alloc GW _).cell (p := ⟨b1, o1 + 1, none⟩) lq1).trans HCQ.out.2.1, ((grow_alloc GW _).cell (p := ⟨b1, o1 + 2, none⟩) lq1).trans HCQ.out.2.2⟩
              | exact ⟨((grow_set (grow_set W2 (Nat.le_refl _) _) (Nat.le_refl _) _).cell (p := ⟨b1, o1, none⟩) lq1).trans HCQ.out.1, ((grow_set (grow_set W2 (Nat.le_refl _) _) (Nat.le_refl _) _).cell (p := ⟨b1, o1 + 1, none⟩) lq1).trans HCQ.out.2.1, ((grow_set (grow_set W2 (Nat.le_refl _) _) (Nat.le_refl _) _).cell (p := ⟨b1, o1 + 2, none⟩) lq1).trans HCQ.out.2.2⟩
              | (go_keep; done))
            (first
              | (go_at_call 28; refine (HSI.out _).mono ?_; rintro e w5 ⟨rfl, hb5⟩; have GX := GX.below hb5; have W2 := grow_step W2 hb5; have cX := GX.cell; have lX := GX.lt; have fX := GX.frozen)
              | (go_at_call 28; refine (HSI.out _).mono ?_; rintro e w5 ⟨rfl, hb5⟩; have GW := grow_step GW hb5))
          · go_wp2_with fail
            go_meet
            exact ⟨w5.heap.size, rfl, Lib.hid (Box.new w5 68 #[.int .i64 P, .int .i64 Z]), Lib.hid (grow_alloc GW _)⟩
          · go_wp2_with fail
            go_meet
            exact ⟨wq.heap.size, rfl, Lib.hid (GX.fill2 (.int .i64 P) (.int .i64 Z)), Lib.hid (grow_set (grow_set W2 (Nat.le_refl _) _) (Nat.le_refl _) _)⟩
        case rest =>
          obtain ⟨gx, rfl, HX, HWX⟩ := hcut
          have cX := HX.out.cell
          have lX := HX.out.lt
          go_wp2_with fail
          refine (HDP.out _).mono ?_
          rintro e w6 ⟨rfl, q⟩
          obtain rfl : wc = w6 := q
          go_wp2_with fail
          refine (HDZ.out _).mono ?_
          rintro e w6 ⟨rfl, q⟩
          obtain rfl : wc = w6 := q
          go_wp2_with fail
          go_ret
          exact lq_same HR.out HD.out (grow_step (grow_step HWr.out HGW.out) HWX.out)


end Go.Proofs.YtegiffdlfpdbkaaGreatDoor
