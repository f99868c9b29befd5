/- BootTells: what is measured, and started, is what the reference says, of any row of images. The listed package variables hold what the program's text lays. -/
import Derived.Test.YtnocigkfhdnhfaaDoorRows
import Derived.Test.YtnocigkfhdnhfaaDoorOpen
import Derived.Test.YtnocigkfhdnhfaaDoorOpI
import Derived.Test.YtnocigkfhdnhfaaDoorOpE
import Derived.Test.YtnocigkfhdnhfaaDoorRefA
import Derived.Test.YtnocigkfhdnhfaaDoorRefK
import Derived.Test.YtnocigkfhdnhfaaDoorRefI
import Derived.Test.YtnocigkfhdnhfaaDoorRefL
import Derived.Test.YtnocigkfhdnhfaaDoorRefS2
import Derived.Test.YtnocigkfhdnhfaaDoorSign
import Derived.Test.YtnocigkfhdnhfaaDoorEq8
import Derived.Test.YtnocigkfhdnhfaaDoorEvSame
import Derived.Test.YtnocigkfhdnhfaaDoorBootP
import Derived.Test.YtnocigkfhdnhfaaDoorBoot
import Derived.Test.YtnocigkfhdnhfaaDoorFootC
import Derived.Test.YtnocigkfhdnhfaaDoorTold
import Derived.Test.YtnocigkfhdnhfaaDoorBds
import Derived.Test.YtnocigkfhdnhfaaDoorLiftD
import Derived.Test.YtnocigkfhdnhfaaDoorLiftT
import Derived.WalkKit
import Derived.WalkSpells
import Derived.Lib.Hide
import Derived.Deep.DeepCutAuto
import Derived.Deep.CutBlock
import Derived.Deep.CutRange
namespace Go.Proofs.YtnocigkfhdnhfaaDoor
open Go.ChangeShapes Go.WideShapes Go.ChangeAt Go.RowKit
set_option linter.unusedVariables false
set_option maxRecDepth 100000

theorem bank_cells (ss : List Sgn) (m : Nat) {y0 y1 y2 y3 y4 y5 y6 y7 : Int} (h : [y0, y1, y2, y3, y4, y5, y6, y7] = bankK ss m) : ((bankK ss m).map (Value.int .i64)).toArray = #[.int .i64 y0, .int .i64 y1, .int .i64 y2, .int .i64 y3, .int .i64 y4, .int .i64 y5, .int .i64 y6, .int .i64 y7] := by rw [← h]; rfl

set_option maxHeartbeats 4000000 in
theorem bootTells_walk (w : World) (p : Int) (A : Option Addr) (ss : List Sgn) (c : Nat) (ip : I64 p) (hS : SgnsAt w A ss) (hl : ss.length * 56 ≤ 140737488351232) (hc : ss.length ≤ c)
    (hss : ∀ i, i < ss.length → (ss.getD i noSgn).1.size ≤ 140737488351232 ∧ (ss.getD i noSgn).2.2.1.size ≤ 140737488351232 ∧ I64 (ss.getD i noSgn).2.1 ∧ I64 (ss.getD i noSgn).2.2.2.1 ∧ I64 (ss.getD i noSgn).2.2.2.2) (hg : TabTD w) :
    Calls Tryd.prog 14 #[.int .i64 p, .slice A ss.length c] w fun e w' => e = .returned (.bool true) ∧ Below w.heap.size w w' := by
  have HG := Lib.hid hg.2
  have HT := Lib.hid hg.1
  have HS := Lib.hid hS
  have HZ := Lib.hid (fun i hi => (⟨(hss i hi).1, (hss i hi).2.1⟩ : (ss.getD i noSgn).1.size ≤ 140737488351232 ∧ (ss.getD i noSgn).2.2.1.size ≤ 140737488351232))
  have q1 := fun y0 y1 y2 y3 y4 y5 y6 y7 (w : World) => run_eq8_eql y0 y1 y2 y3 y4 y5 y6 y7 y0 y1 y2 y3 y4 y5 y6 y7 w
  have q2 := fun y0 y1 y2 y3 y4 y5 y6 y7 (o q : Operand) (w : World) => run_eq8_guard y0 y1 y2 y3 y4 y5 y6 y7 y0 y1 y2 y3 y4 y5 y6 y7 .eql o q w
  clear hg hS hss
  by_cases h0 : bootE p ss = 0
  · obtain ⟨hin, h8, hX⟩ := bootE_ok h0
    have HE := Lib.hid h0
    have HX := Lib.hid hX
    have g8 : ¬ (8 : Int) < (ss.length : Int) := by omega
    clear h0 hX
    go_enter Tryd.func14, Tryd.ntmps14
    go_wp2_with (go_at_call 48; refine (rIn_any _ _).mono ?_; rintro e w' ⟨rfl, rfl⟩; rw [hin])
    go_loopw [5, 7] (fun e i wr => ∃ k : Nat, e = .int .i64 0 ∧ i = .int .i64 k ∧ k ≤ ss.length ∧ Below w.heap.size w wr) (fun _ i _ => ss.length - (intOf i).toNat)
    case atStart => exact ⟨0, rfl, rfl, by omega, (by repeat (first | (with_reducible exact grow_refl _) | (with_reducible assumption) | (with_reducible refine grow_alloc ?_ _) | (with_reducible refine grow_set ?_ (by first | exact Nat.le_refl _ | (simp; done) | (simp; omega) | omega) _) | (with_reducible refine grow_drewN ?_ _) | (with_reducible refine grow_drew ?_) | (with_reducible refine grow_step ?_ (by assumption)) | (with_reducible refine grow_base ?_ (by assumption))))⟩
    case round =>
      obtain ⟨k, rfl, rfl, hk, hb⟩ := hrel
      by_cases hlt : k < ss.length
      · have g0 : (k : Int) < (ss.length : Int) := by omega
        obtain ⟨b1, off1, rfl, _, hcs⟩ := (HS.out.below hb) k hlt
        obtain ⟨z1, z2⟩ := HZ.out k hlt
        have hx0 := HX.out k hlt
        obtain ⟨⟨sn, sv, sc, sp, sa⟩, hz⟩ : ∃ z, ss.getD k noSgn = z := ⟨_, rfl⟩
        rw [hz] at hcs z1 z2 hx0
        simp only [sgnCs, sgX] at hcs z1 z2 hx0
        have e0 := hcs 0 (by decide)
        have e1 := hcs 1 (by decide)
        have e2 := hcs 2 (by decide)
        have e3 := hcs 3 (by decide)
        have e4 := hcs 4 (by decide)
        simp [-CellFam.cellOfFamily] at e0 e1 e2 e3 e4
        have HX0 := Lib.hid hx0
        clear hz hcs hx0
        go_wp2_with fail
        refine (rImage_any sn sv sc _ (by omega) (by omega)).mono ?_
        rintro e w2 ⟨rfl, hb2⟩
        rw [HX0.out]
        go_wp2_with fail
        go_roundw
        case rel => exact ⟨k + 1, rfl, by go_num, by omega, (by repeat (first | (with_reducible exact grow_refl _) | (with_reducible assumption) | (with_reducible refine grow_alloc ?_ _) | (with_reducible refine grow_set ?_ (by first | exact Nat.le_refl _ | (simp; done) | (simp; omega) | omega) _) | (with_reducible refine grow_drewN ?_ _) | (with_reducible refine grow_drew ?_) | (with_reducible refine grow_step ?_ (by assumption)) | (with_reducible refine grow_base ?_ (by assumption))))⟩
        case measure => simp [intOf]; omega
      · have g0 : ¬ (k : Int) < (ss.length : Int) := by omega
        clear hlt hk
        obtain ⟨w1, hw1⟩ : ∃ w1, w1 = wr := ⟨_, rfl⟩
        subst hw1
        have HN := Lib.hid (Box.new w1 78 #[.int .i64 0, .int .i64 0, .int .i64 0, .int .i64 0, .int .i64 0, .int .i64 0, .int .i64 0, .int .i64 0])
        have hlw := hb.size
        go_upto_block 2 with fail
        go_cut [9, 10] from 11 to 75 (fun evs many wx => ∃ (m n : Nat) (A1 : Option Addr) (c1 : Nat), evs = .slice A1 m c1 ∧ many = .int .i64 n ∧ Hid (BootIs p ss m n) ∧ Hid (EvsAt wx A1 (evK ss m)) ∧ Hid (Box wx w1.heap.size 78 ((bankK ss m).map (Value.int .i64)).toArray) ∧ Below w.heap.size w wx)
        case first =>
          go_wp2_with fail
          go_loopw [9, 10, 11] (fun evs many i w2 => ∃ (k n : Nat) (A1 : Option Addr) (c1 : Nat), k ≤ ss.length ∧ evs = .slice A1 n c1 ∧ Hid (n = k) ∧ many = .int .i64 k ∧ i = .int .i64 k ∧ Hid (OwnC w2 (w1.heap.size + 1) 95 2 A1 c1 n (evCells (evK ss k))) ∧
              Hid (Box w2 w1.heap.size 78 ((bankK ss k).map (Value.int .i64)).toArray) ∧ Hid (∀ i, i < k → sgC p (ss.getD i noSgn) = 0) ∧ Below w.heap.size w w2 ∧ w1.heap.size < w2.heap.size) (fun _ _ i _ => ss.length - (intOf i).toNat)
          case atStart => exact ⟨0, 0, none, 0, by omega, rfl, Lib.hid rfl, rfl, rfl, Lib.hid (OwnC.start _ _ _ _), Lib.hid (by rw [bankK_zero]; exact HN.out), Lib.hid (fun i hi => absurd hi (by omega)), (by repeat (first | (with_reducible exact grow_refl _) | (with_reducible assumption) | (with_reducible refine grow_alloc ?_ _) | (with_reducible refine grow_set ?_ (by first | exact Nat.le_refl _ | (simp; done) | (simp; omega) | omega) _) | (with_reducible refine grow_drewN ?_ _) | (with_reducible refine grow_drew ?_) | (with_reducible refine grow_step ?_ (by assumption)) | (with_reducible refine grow_base ?_ (by assumption)))), by simp⟩
          case round =>
            obtain ⟨k, n, A1, c1, hk, rfl, HNK, rfl, rfl, HO, HM, HG2, hb2, hlr⟩ := hrel
            obtain rfl : k = n := HNK.out.symm
            by_cases hlt : k < ss.length
            · have g0 : (k : Int) < (ss.length : Int) := by omega
              have gk8 : (k : Int) < 8 := by omega
              obtain ⟨b1, off1, rfl, _, hcs⟩ := (HS.out.below hb2) k hlt
              obtain ⟨z1, z2⟩ := HZ.out k hlt
              have hx0 := HX.out k hlt
              have hbs := bankK_set (ss := ss) (k := k) (by omega)
              obtain ⟨⟨sn, sv, sc, sp, sa⟩, hz⟩ : ∃ z, ss.getD k noSgn = z := ⟨_, rfl⟩
              rw [hz] at hcs z1 z2 hx0
              simp only [sgnCs, sgX] at hcs z1 z2 hx0
              have e0 := hcs 0 (by decide)
              have e1 := hcs 1 (by decide)
              have e2 := hcs 2 (by decide)
              have e3 := hcs 3 (by decide)
              have e4 := hcs 4 (by decide)
              simp [-CellFam.cellOfFamily] at e0 e1 e2 e3 e4
              have HZ1 := Lib.hid hz
              obtain ⟨M, hM⟩ : ∃ M, imgM sn sv sc = M := ⟨_, rfl⟩
              have HMM := Lib.hid hM
              rw [hz] at hbs
              have hbs2 : (bankK ss k).set k (pairM 0 M) = bankK ss (k + 1) := by rw [← hM]; exact hbs
              have HBS := Lib.hid hbs2
              have hok : okM M = true := by rw [← hM]; exact imgM_ok _ _ _
              have HSM := Lib.hid (lineS_small hx0)
              clear hz hcs hx0 hM hbs hbs2
              go_wp2_with fail
              refine (rLine_any sn sv sc _ HSM.out.1 HSM.out.2.1 HSM.out.2.2.1 HSM.out.2.2.2.1).mono ?_
              rintro e w3 ⟨rfl, hb3⟩
              have HM3 := Lib.hid (HM.out.below hb3)
              have HO3 := Lib.hid (HO.out.below hb3)
              have hbw3 : Below w.heap.size w w3 := grow_step hb2 hb3
              have hcm := HM3.out.at_ k (show k < 8 by omega)
              have lM := HM3.out.lt
              have fM := HM3.out.frozen
              have hCA : CellsAt ((w3.setCell ⟨w1.heap.size, k, none⟩ (.int .i64 (pairM 0 M))).alloc (.cells #[.int .i64 (k : Int), .int .i64 M] 95)) (some ⟨w3.heap.size, 0, none⟩) (evCells [((k : Int), M)]) := by
                have h := CellsAt.new_ (w3.setCell ⟨w1.heap.size, k, none⟩ (.int .i64 (pairM 0 M))) 95 (evCells [((k : Int), M)]) (0, 0)
                have e : (w3.setCell ⟨w1.heap.size, k, none⟩ (.int .i64 (pairM 0 M))).heap.size = w3.heap.size := by simp [World.setCell]
                rw [e] at h
                exact h
              have HCA := Lib.hid hCA
              clear hCA hb3 HM HO hb2
              go_upto_region 20 with (first
                | (go_at_call 41; refine (rText_any (lineS sn sv sc) _ HSM.out.2.2.2.2).mono ?_; rintro e w' ⟨rfl, rfl⟩; rw [show textM (lineS sn sv sc).data.toList = M from HMM.out])
                | (go_at_call 49; refine (rTwo_any 0 M _ rfl hok).mono ?_; rintro e w' ⟨rfl, rfl⟩)
                | (at_builtin; refine app_cells rfl _ _ 79 95 rfl Tryd.underlying79 infoEv_ (by decide) (by decide) (w1.heap.size + 1) A1 c1 k (evCells (evK ss k)) rfl ((HO3.out.far (p := ⟨w1.heap.size, k, none⟩) (by show w1.heap.size < _; omega) _).below (grow_alloc (grow_refl _) _)) (some ⟨w3.heap.size, 0, none⟩) 1 1 (evCells [((k : Int), M)]) rfl HCA.out (by simp [evCells]) (evCells_one _) (by omega) (by omega) (by simp; omega) ?_; intro A2 c2 k2 w4 hk2 ho2 hb4))
              obtain rfl : k2 = k + 1 := hk2.out
              have hbw4 : Below w.heap.size w w4 := by
                refine Below.trans ?_ (hb4.mono (by omega))
                exact (by repeat (first | (with_reducible exact grow_refl _) | (with_reducible assumption) | (with_reducible refine grow_alloc ?_ _) | (with_reducible refine grow_set ?_ (by first | exact Nat.le_refl _ | (simp; done) | (simp; omega) | omega) _) | (with_reducible refine grow_drewN ?_ _) | (with_reducible refine grow_drew ?_) | (with_reducible refine grow_step ?_ (by assumption)) | (with_reducible refine grow_base ?_ (by assumption))))
              have hM4 := ((HM3.out.setI k (pairM 0 M)).alloc_ (.cells #[.int .i64 (k : Int), .int .i64 M] 95)).belowB hb4 (by omega)
              rw [HBS.out] at hM4
              have HM4 := Lib.hid hM4
              have HO4 : Hid (OwnC w4 (w1.heap.size + 1) 95 2 A2 c2 (k + 1) (evCells (evK ss (k + 1)))) := Lib.hid (by rw [evK_step, evCells_append, HZ1.out, show sgW (sn, sv, sc, sp, sa) = M from HMM.out]; exact ho2)
              obtain ⟨b', o', eq', lb', hcs'⟩ := (HS.out.below hbw4) k hlt
              injection eq' with eq'
              injection eq' with qa qb
              subst qa
              subst qb
              rw [HZ1.out] at hcs'
              simp only [sgnCs] at hcs'
              have f0 := hcs' 0 (by decide)
              have f1 := hcs' 1 (by decide)
              have f2 := hcs' 2 (by decide)
              have f3 := hcs' 3 (by decide)
              have f4 := hcs' 4 (by decide)
              simp [-CellFam.cellOfFamily] at f0 f1 f2 f3 f4
              clear hM4 hcs' e0 e1 e2 e3 e4 hcm lM fM ho2 hb4 hk2 HCA HM3 HO3 hbw3
              by_cases hC : signE p sn sv sc sp sa = 0
              · have HC0 := Lib.hid hC
                have HG3 : Hid (∀ i, i < k + 1 → sgC p (ss.getD i noSgn) = 0) := Lib.hid (fun i hi => by
                  rcases Nat.lt_or_ge i k with h | h
                  · exact HG2.out i h
                  · obtain rfl : i = k := by omega
                    rw [HZ1.out]; exact HC0.out)
                clear hC
                go_wp2_with fail
                refine (rSealed_any p sn sv sc sp sa _ (by omega) (by omega)).mono ?_
                rintro e w5 ⟨rfl, hb5⟩
                rw [HC0.out]
                go_wp2_with fail
                go_roundw
                case rel => exact ⟨k + 1, k + 1, A2, c2, by omega, rfl, Lib.hid rfl, by go_num, by go_num, Lib.hid (HO4.out.below hb5), Lib.hid (HM4.out.below hb5), HG3, (by repeat (first | (with_reducible exact grow_refl _) | (with_reducible assumption) | (with_reducible refine grow_alloc ?_ _) | (with_reducible refine grow_set ?_ (by first | exact Nat.le_refl _ | (simp; done) | (simp; omega) | omega) _) | (with_reducible refine grow_drewN ?_ _) | (with_reducible refine grow_drew ?_) | (with_reducible refine grow_step ?_ (by assumption)) | (with_reducible refine grow_base ?_ (by assumption)))), (HM4.out.below hb5).lt⟩
                case measure => simp [intOf]; omega
              · obtain ⟨E, hE⟩ : ∃ E, signE p sn sv sc sp sa = E := ⟨_, rfl⟩
                rw [hE] at hC
                have t : (E != 0) = true := by simp [hC]
                have HE0 := Lib.hid hE
                have HI : Hid (BootIs p ss (k + 1) k) := Lib.hid ⟨⟨by omega, HG2.out⟩, Or.inr ⟨hlt, rfl, by rw [HZ1.out]; exact fun h => hC (hE.symm.trans h)⟩⟩
                clear hE hC
                go_wp2_with fail
                refine (rSealed_any p sn sv sc sp sa _ (by omega) (by omega)).mono ?_
                rintro e w5 ⟨rfl, hb5⟩
                rw [HE0.out]
                go_wp2_with fail
                go_meet
                exact ⟨k + 1, k, A2, c2, rfl, rfl, HI, Lib.hid (EvsAt.of_cells (HO4.out.below hb5).cells), Lib.hid (HM4.out.below hb5), (by repeat (first | (with_reducible exact grow_refl _) | (with_reducible assumption) | (with_reducible refine grow_alloc ?_ _) | (with_reducible refine grow_set ?_ (by first | exact Nat.le_refl _ | (simp; done) | (simp; omega) | omega) _) | (with_reducible refine grow_drewN ?_ _) | (with_reducible refine grow_drew ?_) | (with_reducible refine grow_step ?_ (by assumption)) | (with_reducible refine grow_base ?_ (by assumption))))⟩
            · have g0 : ¬ (k : Int) < (ss.length : Int) := by omega
              obtain rfl : k = ss.length := by omega
              go_wp2_with fail
              go_meet
              exact ⟨ss.length, ss.length, A1, c1, rfl, rfl, Lib.hid ⟨⟨Nat.le_refl _, HG2.out⟩, Or.inl ⟨rfl, rfl⟩⟩, Lib.hid (EvsAt.of_cells HO.out.cells), HM, hb2⟩
        case rest =>
          obtain ⟨m, n, A1, c1, rfl, rfl, HI, HV, HB, hbx⟩ := hcut
          go_wp2_with fail
          refine (bootRun_any p A ss c _ (HS.out.below hbx) HZ.out HE.out (HT.out.below hbx)).mono ?_
          rintro e w6 ⟨m', n', A2, c2, es, y0, y1, y2, y3, y4, y5, y6, y7, hI, hes, hy, rfl, hV2, hb6⟩
          obtain ⟨rfl, rfl⟩ := HI.out.one hI
          subst hes
          rw [evK_len]
          have hB6 := HB.out.below hb6
          rw [bank_cells ss m hy] at hB6
          have hml : m ≤ 8 := by have := hI.le; omega
          have hs2 := fun w h1 h2 => sameEvents_any A2 A1 c2 c1 (evK ss m) w h1 h2 (by rw [evK_len]; omega)
          simp only [evK_len] at hs2
          have HS2 := Lib.hid hs2
          have HV1 := Lib.hid (HV.out.below hb6)
          have HV2 := Lib.hid hV2
          have HB6 := Lib.hid (hB6.alloc_ (.cells #[.int .i64 y0, .int .i64 y1, .int .i64 y2, .int .i64 y3, .int .i64 y4, .int .i64 y5, .int .i64 y6, .int .i64 y7] 78))
          have HX6 := Lib.hid (Box.new w6 78 #[.int .i64 y0, .int .i64 y1, .int .i64 y2, .int .i64 y3, .int .i64 y4, .int .i64 y5, .int .i64 y6, .int .i64 y7])
          have hbw6 : Below w.heap.size w w6 := grow_step hbx hb6
          clear hs2 hB6 hV2 hb6 hy HB HV HI hI
          go_wp2_with fail
          refine (error_any 0 0 _ (HG.out.below (by repeat (first | (with_reducible exact grow_refl _) | (with_reducible assumption) | (with_reducible refine grow_alloc ?_ _) | (with_reducible refine grow_set ?_ (by first | exact Nat.le_refl _ | (simp; done) | (simp; omega) | omega) _) | (with_reducible refine grow_drewN ?_ _) | (with_reducible refine grow_drew ?_) | (with_reducible refine grow_step ?_ (by assumption)) | (with_reducible refine grow_base ?_ (by assumption))))) (i64_small (by decide) (by decide))).mono ?_
          rintro e w7 ⟨rfl, hb7⟩
          rw [show ((0 : Int) == 0) = true from rfl]
          have B7 := HB6.out.below hb7
          have X7 := HX6.out.below hb7
          have cB := B7.cell
          have lB := B7.lt
          have cX := X7.cell
          have lX := X7.lt
          have qq1 := q1 y0 y1 y2 y3 y4 y5 y6 y7
          have qq2 := q2 y0 y1 y2 y3 y4 y5 y6 y7
          have qe : ([y0, y1, y2, y3, y4, y5, y6, y7] == [y0, y1, y2, y3, y4, y5, y6, y7]) = true := by simp
          rw [qe] at qq1
          have hbw7 : Below w.heap.size w w7 := grow_step (grow_alloc hbw6 _) hb7
          have HV17 := Lib.hid ((HV1.out.below (grow_alloc (grow_refl _) (.cells #[.int .i64 y0, .int .i64 y1, .int .i64 y2, .int .i64 y3, .int .i64 y4, .int .i64 y5, .int .i64 y6, .int .i64 y7] 78))).below hb7)
          have HV27 := Lib.hid ((HV2.out.below (grow_alloc (grow_refl _) (.cells #[.int .i64 y0, .int .i64 y1, .int .i64 y2, .int .i64 y3, .int .i64 y4, .int .i64 y5, .int .i64 y6, .int .i64 y7] 78))).below hb7)
          clear B7 X7 q1 q2 hb7 qe
          go_wp2_with fail
          refine (HS2.out _ HV27.out HV17.out).mono ?_
          rintro e w8 ⟨rfl, hb8⟩
          go_wp2_with fail
          go_ret
          exact ⟨rfl, (by repeat (first | (with_reducible exact grow_refl _) | (with_reducible assumption) | (with_reducible refine grow_alloc ?_ _) | (with_reducible refine grow_set ?_ (by first | exact Nat.le_refl _ | (simp; done) | (simp; omega) | omega) _) | (with_reducible refine grow_drewN ?_ _) | (with_reducible refine grow_drew ?_) | (with_reducible refine grow_step ?_ (by assumption)) | (with_reducible refine grow_base ?_ (by assumption))))⟩
  · have HN := Lib.hid h0
    have HIT := Lib.hid (bootE_bd p ss)
    clear h0
    go_enter Tryd.func14, Tryd.ntmps14
    go_upto_if 20 with (go_at_call 48; refine (rIn_any _ _).mono ?_; rintro e w' ⟨rfl, rfl⟩)
    go_cut [5, 6] (fun e _ wx => ∃ t : Int, e = .int .i64 t ∧ Hid (bootE p ss = if t = 0 then firstE ss else t) ∧ Below w.heap.size w wx)
    case first =>
      cases hin : okIn p
      · have HR : Hid (bootE p ss = if (1 : Int) = 0 then firstE ss else 1) := Lib.hid (by unfold bootE; rw [hin]; rfl)
        go_wp2_with fail
        go_meet
        exact ⟨1, rfl, HR, (by repeat (first | (with_reducible exact grow_refl _) | (with_reducible assumption) | (with_reducible refine grow_alloc ?_ _) | (with_reducible refine grow_set ?_ (by first | exact Nat.le_refl _ | (simp; done) | (simp; omega) | omega) _) | (with_reducible refine grow_drewN ?_ _) | (with_reducible refine grow_drew ?_) | (with_reducible refine grow_step ?_ (by assumption)) | (with_reducible refine grow_base ?_ (by assumption))))⟩
      · by_cases h8 : 8 < ss.length
        · have g8 : (8 : Int) < (ss.length : Int) := by omega
          have HR : Hid (bootE p ss = if (4 : Int) = 0 then firstE ss else 4) := Lib.hid (by unfold bootE; rw [hin, if_pos rfl, if_pos h8]; rfl)
          go_wp2_with fail
          go_meet
          exact ⟨4, rfl, HR, (by repeat (first | (with_reducible exact grow_refl _) | (with_reducible assumption) | (with_reducible refine grow_alloc ?_ _) | (with_reducible refine grow_set ?_ (by first | exact Nat.le_refl _ | (simp; done) | (simp; omega) | omega) _) | (with_reducible refine grow_drewN ?_ _) | (with_reducible refine grow_drew ?_) | (with_reducible refine grow_step ?_ (by assumption)) | (with_reducible refine grow_base ?_ (by assumption))))⟩
        · have g8 : ¬ (8 : Int) < (ss.length : Int) := by omega
          have HR : Hid (bootE p ss = if (0 : Int) = 0 then firstE ss else 0) := Lib.hid (by unfold bootE; rw [hin, if_pos rfl, if_neg h8]; rfl)
          go_wp2_with fail
          go_meet
          exact ⟨0, rfl, HR, (by repeat (first | (with_reducible exact grow_refl _) | (with_reducible assumption) | (with_reducible refine grow_alloc ?_ _) | (with_reducible refine grow_set ?_ (by first | exact Nat.le_refl _ | (simp; done) | (simp; omega) | omega) _) | (with_reducible refine grow_drewN ?_ _) | (with_reducible refine grow_drew ?_) | (with_reducible refine grow_step ?_ (by assumption)) | (with_reducible refine grow_base ?_ (by assumption))))⟩
    case rest =>
      obtain ⟨t0, rfl, HR, hb0⟩ := hcut
      go_wp2_with fail
      go_loopw [5, 7] (fun e i wr => ∃ (t : Int) (k : Nat), e = .int .i64 t ∧ i = .int .i64 k ∧ k ≤ ss.length ∧ Hid (bootE p ss = if t = 0 then firstE (ss.drop k) else t) ∧ Below w.heap.size w wr) (fun _ i _ => ss.length - (intOf i).toNat)
      case atStart => exact ⟨t0, 0, rfl, rfl, by omega, HR, hb0⟩
      case round =>
        clear HR
        obtain ⟨t, k, rfl, rfl, hk, HR, hb⟩ := hrel
        by_cases ht : t = 0
        · subst ht
          by_cases hlt : k < ss.length
          · have g0 : (k : Int) < (ss.length : Int) := by omega
            obtain ⟨b1, off1, rfl, _, hcs⟩ := (HS.out.below hb) k hlt
            obtain ⟨z1, z2⟩ := HZ.out k hlt
            have hx0 : bootE p ss = if sgX (ss.getD k noSgn) = 0 then firstE (ss.drop (k + 1)) else sgX (ss.getD k noSgn) := by
              have h := HR.out
              rw [if_pos rfl, drop_cons ss noSgn k hlt] at h
              exact h
            obtain ⟨⟨sn, sv, sc, sp, sa⟩, hz⟩ : ∃ z, ss.getD k noSgn = z := ⟨_, rfl⟩
            rw [hz] at hcs z1 z2 hx0
            simp only [sgnCs, sgX] at hcs z1 z2 hx0
            have e0 := hcs 0 (by decide)
            have e1 := hcs 1 (by decide)
            have e2 := hcs 2 (by decide)
            have e3 := hcs 3 (by decide)
            have e4 := hcs 4 (by decide)
            simp [-CellFam.cellOfFamily] at e0 e1 e2 e3 e4
            have HX0 := Lib.hid hx0
            clear hz hcs hx0
            go_wp2_with fail
            refine (rImage_any sn sv sc _ (by omega) (by omega)).mono ?_
            rintro e w2 ⟨rfl, hb2⟩
            go_wp2_with fail
            go_roundw
            case rel => exact ⟨imgE sn sv sc, k + 1, rfl, by go_num, by omega, HX0, (by repeat (first | (with_reducible exact grow_refl _) | (with_reducible assumption) | (with_reducible refine grow_alloc ?_ _) | (with_reducible refine grow_set ?_ (by first | exact Nat.le_refl _ | (simp; done) | (simp; omega) | omega) _) | (with_reducible refine grow_drewN ?_ _) | (with_reducible refine grow_drew ?_) | (with_reducible refine grow_step ?_ (by assumption)) | (with_reducible refine grow_base ?_ (by assumption))))⟩
            case measure => simp [intOf]; omega
          · exfalso
            have h := HR.out
            rw [if_pos rfl, firstE_end (by omega)] at h
            exact HN.out h
        · have HRT : Hid (bootE p ss = t) := Lib.hid (by have h := HR.out; rw [if_neg ht] at h; exact h)
          have HTI : Hid (I64 t) := Lib.hid (by rw [← HRT.out]; exact HIT.out)
          have tz : (t == 0) = false := by simp [ht]
          obtain ⟨w1, hw1⟩ : ∃ w1, w1 = wr := ⟨_, rfl⟩
          subst hw1
          have HZB := Lib.hid (Box.new w1 78 #[.int .i64 0, .int .i64 0, .int .i64 0, .int .i64 0, .int .i64 0, .int .i64 0, .int .i64 0, .int .i64 0])
          have hlw := hb.size
          clear ht HR HIT
          by_cases hlt : k < ss.length
          · have g0 : (k : Int) < (ss.length : Int) := by omega
            have g1 : (0 : Int) < (ss.length : Int) := by omega
            go_wp2_with fail
            go_loopw [9, 10, 11] (fun evs many i w2 => evs = .slice none 0 0 ∧ many = .int .i64 0 ∧ i = .int .i64 0 ∧ Hid (Box w2 w1.heap.size 78 #[.int .i64 0, .int .i64 0, .int .i64 0, .int .i64 0, .int .i64 0, .int .i64 0, .int .i64 0, .int .i64 0]) ∧ Below w.heap.size w w2) (fun _ _ _ _ => 0)
            case atStart => exact ⟨rfl, rfl, rfl, HZB, (by repeat (first | (with_reducible exact grow_refl _) | (with_reducible assumption) | (with_reducible refine grow_alloc ?_ _) | (with_reducible refine grow_set ?_ (by first | exact Nat.le_refl _ | (simp; done) | (simp; omega) | omega) _) | (with_reducible refine grow_drewN ?_ _) | (with_reducible refine grow_drew ?_) | (with_reducible refine grow_step ?_ (by assumption)) | (with_reducible refine grow_base ?_ (by assumption))))⟩
            case round =>
              obtain ⟨rfl, rfl, rfl, HB, hb2⟩ := hrel
              go_wp2_with fail
              refine (bootRun_bad p A ss c _ (HS.out.below hb2) (by omega) HZ.out HN.out).mono ?_
              rintro e w6 ⟨rfl, hb6⟩
              rw [HRT.out]
              have HB6 := Lib.hid ((HB.out.below hb6).alloc_ (.cells #[.int .i64 0, .int .i64 0, .int .i64 0, .int .i64 0, .int .i64 0, .int .i64 0, .int .i64 0, .int .i64 0] 78))
              have HX6 := Lib.hid (Box.new w6 78 #[.int .i64 0, .int .i64 0, .int .i64 0, .int .i64 0, .int .i64 0, .int .i64 0, .int .i64 0, .int .i64 0])
              have hbw6 : Below w.heap.size w w6 := grow_step hb2 hb6
              clear hb6 HB
              go_wp2_with fail
              refine (error_any t t _ (HG.out.below (by repeat (first | (with_reducible exact grow_refl _) | (with_reducible assumption) | (with_reducible refine grow_alloc ?_ _) | (with_reducible refine grow_set ?_ (by first | exact Nat.le_refl _ | (simp; done) | (simp; omega) | omega) _) | (with_reducible refine grow_drewN ?_ _) | (with_reducible refine grow_drew ?_) | (with_reducible refine grow_step ?_ (by assumption)) | (with_reducible refine grow_base ?_ (by assumption))))) HTI.out).mono ?_
              rintro e w7 ⟨rfl, hb7⟩
              rw [show (t == t) = true by simp]
              have B7 := HB6.out.below hb7
              have X7 := HX6.out.below hb7
              have cB := B7.cell
              have lB := B7.lt
              have cX := X7.cell
              have lX := X7.lt
              have qq1 := q1 0 0 0 0 0 0 0 0
              have qq2 := q2 0 0 0 0 0 0 0 0
              have qe : (([0, 0, 0, 0, 0, 0, 0, 0] : List Int) == [0, 0, 0, 0, 0, 0, 0, 0]) = true := by decide
              rw [qe] at qq1
              have hbw7 : Below w.heap.size w w7 := grow_step (grow_alloc hbw6 _) hb7
              clear B7 X7 q1 q2 hb7 qe
              go_wp2_with fail
              refine (sameEvents_any none none 0 0 [] _ (EvsAt.nil_ _ _) (EvsAt.nil_ _ _) (by decide)).mono ?_
              rintro e w8 ⟨rfl, hb8⟩
              go_wp2_with fail
              go_ret
              exact ⟨rfl, (by repeat (first | (with_reducible exact grow_refl _) | (with_reducible assumption) | (with_reducible refine grow_alloc ?_ _) | (with_reducible refine grow_set ?_ (by first | exact Nat.le_refl _ | (simp; done) | (simp; omega) | omega) _) | (with_reducible refine grow_drewN ?_ _) | (with_reducible refine grow_drew ?_) | (with_reducible refine grow_step ?_ (by assumption)) | (with_reducible refine grow_base ?_ (by assumption))))⟩
          · have g0 : ¬ (k : Int) < (ss.length : Int) := by omega
            by_cases g1 : (0 : Int) < (ss.length : Int)
            · skip
              go_wp2_with fail
              go_loopw [9, 10, 11] (fun evs many i w2 => evs = .slice none 0 0 ∧ many = .int .i64 0 ∧ i = .int .i64 0 ∧ Hid (Box w2 w1.heap.size 78 #[.int .i64 0, .int .i64 0, .int .i64 0, .int .i64 0, .int .i64 0, .int .i64 0, .int .i64 0, .int .i64 0]) ∧ Below w.heap.size w w2) (fun _ _ _ _ => 0)
              case atStart => exact ⟨rfl, rfl, rfl, HZB, (by repeat (first | (with_reducible exact grow_refl _) | (with_reducible assumption) | (with_reducible refine grow_alloc ?_ _) | (with_reducible refine grow_set ?_ (by first | exact Nat.le_refl _ | (simp; done) | (simp; omega) | omega) _) | (with_reducible refine grow_drewN ?_ _) | (with_reducible refine grow_drew ?_) | (with_reducible refine grow_step ?_ (by assumption)) | (with_reducible refine grow_base ?_ (by assumption))))⟩
              case round =>
                obtain ⟨rfl, rfl, rfl, HB, hb2⟩ := hrel
                go_wp2_with fail
                refine (bootRun_bad p A ss c _ (HS.out.below hb2) (by omega) HZ.out HN.out).mono ?_
                rintro e w6 ⟨rfl, hb6⟩
                rw [HRT.out]
                have HB6 := Lib.hid ((HB.out.below hb6).alloc_ (.cells #[.int .i64 0, .int .i64 0, .int .i64 0, .int .i64 0, .int .i64 0, .int .i64 0, .int .i64 0, .int .i64 0] 78))
                have HX6 := Lib.hid (Box.new w6 78 #[.int .i64 0, .int .i64 0, .int .i64 0, .int .i64 0, .int .i64 0, .int .i64 0, .int .i64 0, .int .i64 0])
                have hbw6 : Below w.heap.size w w6 := grow_step hb2 hb6
                clear hb6 HB
                go_wp2_with fail
                refine (error_any t t _ (HG.out.below (by repeat (first | (with_reducible exact grow_refl _) | (with_reducible assumption) | (with_reducible refine grow_alloc ?_ _) | (with_reducible refine grow_set ?_ (by first | exact Nat.le_refl _ | (simp; done) | (simp; omega) | omega) _) | (with_reducible refine grow_drewN ?_ _) | (with_reducible refine grow_drew ?_) | (with_reducible refine grow_step ?_ (by assumption)) | (with_reducible refine grow_base ?_ (by assumption))))) HTI.out).mono ?_
                rintro e w7 ⟨rfl, hb7⟩
                rw [show (t == t) = true by simp]
                have B7 := HB6.out.below hb7
                have X7 := HX6.out.below hb7
                have cB := B7.cell
                have lB := B7.lt
                have cX := X7.cell
                have lX := X7.lt
                have qq1 := q1 0 0 0 0 0 0 0 0
                have qq2 := q2 0 0 0 0 0 0 0 0
                have qe : (([0, 0, 0, 0, 0, 0, 0, 0] : List Int) == [0, 0, 0, 0, 0, 0, 0, 0]) = true := by decide
                rw [qe] at qq1
                have hbw7 : Below w.heap.size w w7 := grow_step (grow_alloc hbw6 _) hb7
                clear B7 X7 q1 q2 hb7 qe
                go_wp2_with fail
                refine (sameEvents_any none none 0 0 [] _ (EvsAt.nil_ _ _) (EvsAt.nil_ _ _) (by decide)).mono ?_
                rintro e w8 ⟨rfl, hb8⟩
                go_wp2_with fail
                go_ret
                exact ⟨rfl, (by repeat (first | (with_reducible exact grow_refl _) | (with_reducible assumption) | (with_reducible refine grow_alloc ?_ _) | (with_reducible refine grow_set ?_ (by first | exact Nat.le_refl _ | (simp; done) | (simp; omega) | omega) _) | (with_reducible refine grow_drewN ?_ _) | (with_reducible refine grow_drew ?_) | (with_reducible refine grow_step ?_ (by assumption)) | (with_reducible refine grow_base ?_ (by assumption))))⟩
            · skip
              go_wp2_with fail
              go_loopw [9, 10, 11] (fun evs many i w2 => evs = .slice none 0 0 ∧ many = .int .i64 0 ∧ i = .int .i64 0 ∧ Hid (Box w2 w1.heap.size 78 #[.int .i64 0, .int .i64 0, .int .i64 0, .int .i64 0, .int .i64 0, .int .i64 0, .int .i64 0, .int .i64 0]) ∧ Below w.heap.size w w2) (fun _ _ _ _ => 0)
              case atStart => exact ⟨rfl, rfl, rfl, HZB, (by repeat (first | (with_reducible exact grow_refl _) | (with_reducible assumption) | (with_reducible refine grow_alloc ?_ _) | (with_reducible refine grow_set ?_ (by first | exact Nat.le_refl _ | (simp; done) | (simp; omega) | omega) _) | (with_reducible refine grow_drewN ?_ _) | (with_reducible refine grow_drew ?_) | (with_reducible refine grow_step ?_ (by assumption)) | (with_reducible refine grow_base ?_ (by assumption))))⟩
              case round =>
                obtain ⟨rfl, rfl, rfl, HB, hb2⟩ := hrel
                go_wp2_with fail
                refine (bootRun_bad p A ss c _ (HS.out.below hb2) (by omega) HZ.out HN.out).mono ?_
                rintro e w6 ⟨rfl, hb6⟩
                rw [HRT.out]
                have HB6 := Lib.hid ((HB.out.below hb6).alloc_ (.cells #[.int .i64 0, .int .i64 0, .int .i64 0, .int .i64 0, .int .i64 0, .int .i64 0, .int .i64 0, .int .i64 0] 78))
                have HX6 := Lib.hid (Box.new w6 78 #[.int .i64 0, .int .i64 0, .int .i64 0, .int .i64 0, .int .i64 0, .int .i64 0, .int .i64 0, .int .i64 0])
                have hbw6 : Below w.heap.size w w6 := grow_step hb2 hb6
                clear hb6 HB
                go_wp2_with fail
                refine (error_any t t _ (HG.out.below (by repeat (first | (with_reducible exact grow_refl _) | (with_reducible assumption) | (with_reducible refine grow_alloc ?_ _) | (with_reducible refine grow_set ?_ (by first | exact Nat.le_refl _ | (simp; done) | (simp; omega) | omega) _) | (with_reducible refine grow_drewN ?_ _) | (with_reducible refine grow_drew ?_) | (with_reducible refine grow_step ?_ (by assumption)) | (with_reducible refine grow_base ?_ (by assumption))))) HTI.out).mono ?_
                rintro e w7 ⟨rfl, hb7⟩
                rw [show (t == t) = true by simp]
                have B7 := HB6.out.below hb7
                have X7 := HX6.out.below hb7
                have cB := B7.cell
                have lB := B7.lt
                have cX := X7.cell
                have lX := X7.lt
                have qq1 := q1 0 0 0 0 0 0 0 0
                have qq2 := q2 0 0 0 0 0 0 0 0
                have qe : (([0, 0, 0, 0, 0, 0, 0, 0] : List Int) == [0, 0, 0, 0, 0, 0, 0, 0]) = true := by decide
                rw [qe] at qq1
                have hbw7 : Below w.heap.size w w7 := grow_step (grow_alloc hbw6 _) hb7
                clear B7 X7 q1 q2 hb7 qe
                go_wp2_with fail
                refine (sameEvents_any none none 0 0 [] _ (EvsAt.nil_ _ _) (EvsAt.nil_ _ _) (by decide)).mono ?_
                rintro e w8 ⟨rfl, hb8⟩
                go_wp2_with fail
                go_ret
                exact ⟨rfl, (by repeat (first | (with_reducible exact grow_refl _) | (with_reducible assumption) | (with_reducible refine grow_alloc ?_ _) | (with_reducible refine grow_set ?_ (by first | exact Nat.le_refl _ | (simp; done) | (simp; omega) | omega) _) | (with_reducible refine grow_drewN ?_ _) | (with_reducible refine grow_drew ?_) | (with_reducible refine grow_step ?_ (by assumption)) | (with_reducible refine grow_base ?_ (by assumption))))⟩

set_option maxRecDepth 100000 in
theorem bootTells_walks (H : Type) (enc : TypeId × Value → H) : WalksD enc Tryd.prog TabTD 14 Tryd.f14 := by
  intro W base args ds p hval hA hlt hsz hsh hdoor
  have hsz0 := hsz
  rw [Tryd.params14] at hA hval
  obtain ⟨v0, vs0, d0, ds0, p0, q0, hargs, rfl, rfl, h0, r0⟩ := trodAll_cons hA
  obtain ⟨v1, vs1, d1, ds1, p1, q1, rfl, rfl, rfl, h1, r1⟩ := trodAll_cons r0
  obtain ⟨rfl, rfl, rfl⟩ := trodAll_nil r1
  obtain rfl : args = #[v0, v1] := by cases args; simp_all
  obtain ⟨a0, rfl, w0⟩ := op_int (hval 0 3 v0 rfl rfl) h0
  obtain ⟨A1, a1, c1, rfl, w1, z1, y1, g1⟩ := op_signeds (hval 1 65 v1 rfl rfl) h1 (fun x hx => hlt x (by simp [hx])) (w_each hsz 1 65 _ (by rw [Tryd.params14]; rfl) rfl)
  exact bootTells_walk W a0 A1 a1 c1 w0 w1 z1 y1 g1 hdoor

set_option maxRecDepth 100000 in
theorem bootTells_lifted (os : Os) (started : os.Started) (H : Type) (enc : TypeId × Value → H) :
    ReturnsInHanded {} Tryd.checked os 14 .any (fun w args => (Rows.bootTellsSpec.pre enc Tryd.checked.prog Tryd.f14 [] false w args ∧ laidMetH Tryd.checked.prog LaidTD w) ∧ sizedMet enc Tryd.checked.prog Tryd.f14 (OpenSpec.ofChange Rows.bootTellsSpec) false w args) (Rows.bootTellsSpec.post enc Tryd.checked.prog Tryd.f14 false true false false) :=
  returns_of_walkD (C := Tryd.checked) (s := Rows.bootTellsSpec) (L := LaidTD) (D := TabTD) own started (by kernel_rfl) Tryd.func14
    (ChangeSpec.witness_at (enc := enc) (C := Tryd.checked) (os := os) (X := fun w _ => laidMetH Tryd.prog LaidTD w) false (laidWorldTD os) #[.int .i64 0, .slice none 0 0] 8 rfl (by kernel_rfl) (by kernel_rfl) (by kernel_rfl) (by kernel_rfl) (by kernel_rfl) (laidWorldTD_met os _))
    (fun W h => tabTD_of_laid h) laidOut (by kernel_rfl) rfl Tryd.underlying4 rfl (fun ds h => by match ds, h with | [_, _], _ => rfl) (bootTells_walks H enc)

theorem bootTells_bare : Rows.BootTellsSaid :=
  OpenClaim.holds_of_wide 14 Tryd.f14 rfl rfl rfl rfl rfl rfl rfl ⟨rfl, rfl, rfl, rfl, rfl⟩ rfl rfl rfl rfl rfl (by kernel_rfl) Tryd.func14 (by kernel_rfl)
    (of_decide_eq_true (by kernel_rfl)) (by unfold Func.isWrapper; rw [if_neg (of_decide_eq_false (by kernel_rfl))]; exact ⟨rfl, rfl⟩)
    (fun os started H enc _ => bootTells_lifted os started H enc)

theorem bootTells_holds : Rows.BootTellsCardSaid :=
  Claim7.holds_tied_plain_at .later [] [.data, .data, .data, .handle] true Rows.bootTellsCard.stood.harness true
    bootTells_bare (fun _ h => by cases h) (by kernel_rfl) (fun _ h => by cases h) bootTells_row_tie rfl ⟨rfl, rfl⟩ (by kernel_rfl) rfl
    (fun f fn hf hfn => by
      obtain rfl : f = 14 := Option.some.inj ((show Tryd.prog.funcNamed "bootstair/stairlaw2.BootTells" = some 14 by kernel_rfl).symm.trans hf) |>.symm
      obtain rfl : fn = Tryd.f14 := (Option.some.inj (Tryd.func14.symm.trans hfn)).symm
      exact ⟨by kernel_rfl, fun j t ht => by
        have hm : t ∈ Tryd.f14.params.toList := by simpa using Array.mem_of_getElem? ht
        have hall : (Tryd.f14.params.toList.all fun u => !Tryd.prog.wantsStandIn u) = true := by kernel_rfl
        exact (show Tryd.prog.wantsStandIn t = false by simpa using List.all_eq_true.1 hall t hm)⟩)
    (by kernel_rfl)

end Go.Proofs.YtnocigkfhdnhfaaDoor
